/-
  DERIVED. GIVEN WITH THE SEED: THE CARDS: each row of YtkokongbnemkhaaGreatDoorRows.lean that lists a variable, with what it lists TIED to the program's text (the seventh form; the later family's looks); each row that meets fmt, with fmt's text TOLD by the authors' own Lean function (tested against real Go, not proved from fmt's source: count such statements apart). THE CARD IS WHAT COUNTS. Prove the row's statement (the work); the ties are given (YtkokongbnemkhaaGreatDoorTie.lean); close each card by the builder's one call (the guide's Derived/Test/ToyasCard.lean, 'card_holds'). Laid BY PROGRAM, IN A SANDBOX (cutbox-door.mjs). By AI agents, Wed Nov 11 2026. No macro, syntax, notation, axiom, sorry.
-/
import Derived.Test.YtkokongbnemkhaaGreatDoorRows
import GoSem.ClaimSeven
namespace Go.Proofs.YtkokongbnemkhaaGreatDoor
namespace Rows

/-- THE TIED CARD OF 'ephemeriskeep1.ReformEach'. -/
def reformEachCard : Claim7 := { stood := { row := reformEachRow, standIns := [], harness := (true, "42af87dd62b92d5c68d42f3bd9aa4e528d834dd1d4b2a645a823a2a12296abce"), looks := true }, kinds := [], alts := [], laidByText := true, laidKinds := [.data, .data, .data, .data, .sentinel, .sentinel, .listed, .data, .data, .data, .data, .pinned], laidTests := true, laidLooks := .later }
def ReformEachCardSaid : Prop := Claim7.holds Tryz.pinned (.plain (OpenSpec.ofChange reformEachSpec)) reformEachCard

/-- THE TIED CARD OF 'ephemeriskeep1.ReformSkips'. -/
def reformSkipsCard : Claim7 := { stood := { row := reformSkipsRow, standIns := [], harness := (true, "42af87dd62b92d5c68d42f3bd9aa4e528d834dd1d4b2a645a823a2a12296abce"), looks := true }, kinds := [], alts := [], laidByText := true, laidKinds := [.data, .data, .data, .data, .sentinel, .sentinel, .listed, .data, .data, .data, .data, .pinned], laidTests := true, laidLooks := .later }
def ReformSkipsCardSaid : Prop := Claim7.holds Tryz.pinned (.plain (OpenSpec.ofChange reformSkipsSpec)) reformSkipsCard

/-- THE TIED CARD OF 'ephemeriskeep1.EraBack'. -/
def eraBackCard : Claim7 := { stood := { row := eraBackRow, standIns := [], harness := (true, "42af87dd62b92d5c68d42f3bd9aa4e528d834dd1d4b2a645a823a2a12296abce"), looks := true }, kinds := [], alts := [], laidByText := true, laidKinds := [.data, .data, .data, .data, .sentinel, .sentinel, .listed, .data, .data, .data, .data, .pinned], laidTests := true, laidLooks := .later }
def EraBackCardSaid : Prop := Claim7.holds Tryz.pinned (.plain (OpenSpec.ofChange eraBackSpec)) eraBackCard

/-- THE TIED CARD OF 'ephemeriskeep1.SpanBack'. -/
def spanBackCard : Claim7 := { stood := { row := spanBackRow, standIns := [], harness := (true, "42af87dd62b92d5c68d42f3bd9aa4e528d834dd1d4b2a645a823a2a12296abce"), looks := true }, kinds := [], alts := [], laidByText := true, laidKinds := [.data, .data, .data, .data, .sentinel, .sentinel, .listed, .data, .data, .data, .data, .pinned], laidTests := true, laidLooks := .later }
def SpanBackCardSaid : Prop := Claim7.holds Tryz.pinned (.plain (OpenSpec.ofChange spanBackSpec)) spanBackCard

/-- THE TIED CARD OF 'ephemeriskeep1.SpanSteps'. -/
def spanStepsCard : Claim7 := { stood := { row := spanStepsRow, standIns := [], harness := (true, "42af87dd62b92d5c68d42f3bd9aa4e528d834dd1d4b2a645a823a2a12296abce"), looks := true }, kinds := [], alts := [], laidByText := true, laidKinds := [.data, .data, .data, .data, .sentinel, .sentinel, .listed, .data, .data, .data, .data, .pinned], laidTests := true, laidLooks := .later }
def SpanStepsCardSaid : Prop := Claim7.holds Tryz.pinned (.plain (OpenSpec.ofChange spanStepsSpec)) spanStepsCard

/-- THE TIED CARD OF 'ephemeristop.TopEras'. -/
def topErasCard : Claim7 := { stood := { row := topErasRow, standIns := [], harness := (true, "42af87dd62b92d5c68d42f3bd9aa4e528d834dd1d4b2a645a823a2a12296abce"), looks := true }, kinds := [], alts := [], laidByText := true, laidKinds := [.data, .data, .data, .data, .sentinel, .sentinel, .listed, .data, .data, .data, .data, .pinned], laidTests := true, laidLooks := .later }
def TopErasCardSaid : Prop := Claim7.holds Tryz.pinned (.plain (OpenSpec.ofChange topErasSpec)) topErasCard

/-- THE TIED CARD OF 'ephemeristop.TopReform'. -/
def topReformCard : Claim7 := { stood := { row := topReformRow, standIns := [], harness := (true, "42af87dd62b92d5c68d42f3bd9aa4e528d834dd1d4b2a645a823a2a12296abce"), looks := true }, kinds := [], alts := [], laidByText := true, laidKinds := [.data, .data, .data, .data, .sentinel, .sentinel, .listed, .data, .data, .data, .data, .pinned], laidTests := true, laidLooks := .later }
def TopReformCardSaid : Prop := Claim7.holds Tryz.pinned (.plain (OpenSpec.ofChange topReformSpec)) topReformCard

/-- THE TIED CARD OF 'ephemeristop.TopSpans'. -/
def topSpansCard : Claim7 := { stood := { row := topSpansRow, standIns := [], harness := (true, "42af87dd62b92d5c68d42f3bd9aa4e528d834dd1d4b2a645a823a2a12296abce"), looks := true }, kinds := [], alts := [], laidByText := true, laidKinds := [.data, .data, .data, .data, .sentinel, .sentinel, .listed, .data, .data, .data, .data, .pinned], laidTests := true, laidLooks := .later }
def TopSpansCardSaid : Prop := Claim7.holds Tryz.pinned (.plain (OpenSpec.ofChange topSpansSpec)) topSpansCard

/-- THE SECOND FORM's CARD OF 'ephemeriskeep1.ReformEach'. -/
def reformEachUptoCard : Claim7 := { stood := { row := reformEachUptoRow, standIns := [], harness := (true, "42af87dd62b92d5c68d42f3bd9aa4e528d834dd1d4b2a645a823a2a12296abce"), looks := true }, kinds := [], alts := [], laidByText := true, laidKinds := [.data, .data, .data, .data, .sentinel, .sentinel, .listed, .data, .data, .data, .data, .pinned], laidTests := true, laidLooks := .later }
def ReformEachUptoCardSaid : Prop := Claim7.holds Tryz.pinned (.plain (OpenSpec.upto reformEachSpec)) reformEachUptoCard

/-- THE SECOND FORM's CARD OF 'ephemeriskeep1.ReformSkips'. -/
def reformSkipsUptoCard : Claim7 := { stood := { row := reformSkipsUptoRow, standIns := [], harness := (true, "42af87dd62b92d5c68d42f3bd9aa4e528d834dd1d4b2a645a823a2a12296abce"), looks := true }, kinds := [], alts := [], laidByText := true, laidKinds := [.data, .data, .data, .data, .sentinel, .sentinel, .listed, .data, .data, .data, .data, .pinned], laidTests := true, laidLooks := .later }
def ReformSkipsUptoCardSaid : Prop := Claim7.holds Tryz.pinned (.plain (OpenSpec.upto reformSkipsSpec)) reformSkipsUptoCard

/-- THE SECOND FORM's CARD OF 'ephemeriskeep1.EraBack'. -/
def eraBackUptoCard : Claim7 := { stood := { row := eraBackUptoRow, standIns := [], harness := (true, "42af87dd62b92d5c68d42f3bd9aa4e528d834dd1d4b2a645a823a2a12296abce"), looks := true }, kinds := [], alts := [], laidByText := true, laidKinds := [.data, .data, .data, .data, .sentinel, .sentinel, .listed, .data, .data, .data, .data, .pinned], laidTests := true, laidLooks := .later }
def EraBackUptoCardSaid : Prop := Claim7.holds Tryz.pinned (.plain (OpenSpec.upto eraBackSpec)) eraBackUptoCard

/-- THE SECOND FORM's CARD OF 'ephemeriskeep1.SpanBack'. -/
def spanBackUptoCard : Claim7 := { stood := { row := spanBackUptoRow, standIns := [], harness := (true, "42af87dd62b92d5c68d42f3bd9aa4e528d834dd1d4b2a645a823a2a12296abce"), looks := true }, kinds := [], alts := [], laidByText := true, laidKinds := [.data, .data, .data, .data, .sentinel, .sentinel, .listed, .data, .data, .data, .data, .pinned], laidTests := true, laidLooks := .later }
def SpanBackUptoCardSaid : Prop := Claim7.holds Tryz.pinned (.plain (OpenSpec.upto spanBackSpec)) spanBackUptoCard

/-- THE SECOND FORM's CARD OF 'ephemeriskeep1.SpanSteps'. -/
def spanStepsUptoCard : Claim7 := { stood := { row := spanStepsUptoRow, standIns := [], harness := (true, "42af87dd62b92d5c68d42f3bd9aa4e528d834dd1d4b2a645a823a2a12296abce"), looks := true }, kinds := [], alts := [], laidByText := true, laidKinds := [.data, .data, .data, .data, .sentinel, .sentinel, .listed, .data, .data, .data, .data, .pinned], laidTests := true, laidLooks := .later }
def SpanStepsUptoCardSaid : Prop := Claim7.holds Tryz.pinned (.plain (OpenSpec.upto spanStepsSpec)) spanStepsUptoCard

/-- THE SECOND FORM's CARD OF 'ephemeristop.TopEras'. -/
def topErasUptoCard : Claim7 := { stood := { row := topErasUptoRow, standIns := [], harness := (true, "42af87dd62b92d5c68d42f3bd9aa4e528d834dd1d4b2a645a823a2a12296abce"), looks := true }, kinds := [], alts := [], laidByText := true, laidKinds := [.data, .data, .data, .data, .sentinel, .sentinel, .listed, .data, .data, .data, .data, .pinned], laidTests := true, laidLooks := .later }
def TopErasUptoCardSaid : Prop := Claim7.holds Tryz.pinned (.plain (OpenSpec.upto topErasSpec)) topErasUptoCard

/-- THE SECOND FORM's CARD OF 'ephemeristop.TopReform'. -/
def topReformUptoCard : Claim7 := { stood := { row := topReformUptoRow, standIns := [], harness := (true, "42af87dd62b92d5c68d42f3bd9aa4e528d834dd1d4b2a645a823a2a12296abce"), looks := true }, kinds := [], alts := [], laidByText := true, laidKinds := [.data, .data, .data, .data, .sentinel, .sentinel, .listed, .data, .data, .data, .data, .pinned], laidTests := true, laidLooks := .later }
def TopReformUptoCardSaid : Prop := Claim7.holds Tryz.pinned (.plain (OpenSpec.upto topReformSpec)) topReformUptoCard

/-- THE SECOND FORM's CARD OF 'ephemeristop.TopSpans'. -/
def topSpansUptoCard : Claim7 := { stood := { row := topSpansUptoRow, standIns := [], harness := (true, "42af87dd62b92d5c68d42f3bd9aa4e528d834dd1d4b2a645a823a2a12296abce"), looks := true }, kinds := [], alts := [], laidByText := true, laidKinds := [.data, .data, .data, .data, .sentinel, .sentinel, .listed, .data, .data, .data, .data, .pinned], laidTests := true, laidLooks := .later }
def TopSpansUptoCardSaid : Prop := Claim7.holds Tryz.pinned (.plain (OpenSpec.upto topSpansSpec)) topSpansUptoCard
end Rows
end Go.Proofs.YtkokongbnemkhaaGreatDoor
