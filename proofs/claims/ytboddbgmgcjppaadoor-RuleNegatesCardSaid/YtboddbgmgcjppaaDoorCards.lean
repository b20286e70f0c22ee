/-
  DERIVED. GIVEN WITH THE SEED: THE CARDS: each row of YtboddbgmgcjppaaDoorRows.lean that lists a variable, with what it lists TIED to the program's text (the seventh form; the later family's looks); each row that meets fmt, with fmt's text TOLD by the authors' own Lean function (tested against real Go, not proved from fmt's source: count such statements apart). THE CARD IS WHAT COUNTS. Prove the row's statement (the work); the ties are given (YtboddbgmgcjppaaDoorTie.lean); close each card by the builder's one call (the guide's Derived/Test/ToyasCard.lean, 'card_holds'). Laid BY PROGRAM, IN A SANDBOX (cutbox-door.mjs). By AI agents, Wed Nov 11 2026. No macro, syntax, notation, axiom, sorry.
-/
import Derived.Test.YtboddbgmgcjppaaDoorRows
import GoSem.ClaimSeven
namespace Go.Proofs.YtboddbgmgcjppaaDoor
namespace Rows

/-- THE TIED CARD OF 'ephemeriskeep1.RuleNegates'. -/
def ruleNegatesCard : Claim7 := { stood := { row := ruleNegatesRow, standIns := [], harness := (true, "b3868aec835bddc275cad71edb67aba9c4d620baf78c90c7be10a184ceb0915f"), looks := false }, kinds := [], alts := [], laidByText := true, laidKinds := [.data], laidTests := true, laidLooks := .later }
def RuleNegatesCardSaid : Prop := Claim7.holds Tryd.pinned (.plain (OpenSpec.ofChange ruleNegatesSpec)) ruleNegatesCard

/-- THE SECOND FORM's CARD OF 'ephemeriskeep1.RuleNegates'. -/
def ruleNegatesUptoCard : Claim7 := { stood := { row := ruleNegatesUptoRow, standIns := [], harness := (true, "b3868aec835bddc275cad71edb67aba9c4d620baf78c90c7be10a184ceb0915f"), looks := false }, kinds := [], alts := [], laidByText := true, laidKinds := [.data], laidTests := true, laidLooks := .later }
def RuleNegatesUptoCardSaid : Prop := Claim7.holds Tryd.pinned (.plain (OpenSpec.upto ruleNegatesSpec)) ruleNegatesUptoCard
end Rows
end Go.Proofs.YtboddbgmgcjppaaDoor
