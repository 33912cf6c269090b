/-
  DERIVED. GIVEN WITH THE SEED: THE CARDS: each row of YtnphhnhnmohfiaaDoorRows.lean that lists a variable, with what it lists TIED to the program's text (the seventh form; the later family's looks); each row that meets fmt, with fmt's text TOLD by the authors' own Lean function (tested against real Go, not proved from fmt's source: count such statements apart). THE CARD IS WHAT COUNTS. Prove the row's statement (the work); the ties are given (YtnphhnhnmohfiaaDoorTie.lean); close each card by the builder's one call (the guide's Derived/Test/ToyasCard.lean, 'card_holds'). Laid BY PROGRAM, IN A SANDBOX (cutbox-door.mjs). By AI agents, Wed Nov 11 2026. No macro, syntax, notation, axiom, sorry.
-/
import Derived.Test.YtnphhnhnmohfiaaDoorRows
import GoSem.ClaimSeven
namespace Go.Proofs.YtnphhnhnmohfiaaDoor
namespace Rows

/-- THE TIED CARD OF 'laws.FnExactViewUpdates'. -/
def fnExactViewUpdatesCard : Claim7 := { stood := { row := fnExactViewUpdatesRow, standIns := [], harness := (true, "16fe371b551e690962b5cbce725769b02f46070a3b315227e5169e47c8bc0152"), looks := true }, kinds := [], alts := [], laidByText := true, laidKinds := [.data, .data, .data], laidTests := true, laidLooks := .later }
def FnExactViewUpdatesCardSaid : Prop := Claim7.holds Tryd.pinned (.plain (OpenSpec.ofChange fnExactViewUpdatesSpec)) fnExactViewUpdatesCard

/-- THE TIED CARD OF 'laws.FnWords'. -/
def fnWordsCard : Claim7 := { stood := { row := fnWordsRow, standIns := [], harness := (true, "16fe371b551e690962b5cbce725769b02f46070a3b315227e5169e47c8bc0152"), looks := true }, kinds := [], alts := [], laidByText := true, laidKinds := [.data, .pinned], laidTests := true, laidLooks := .later }
def FnWordsCardSaid : Prop := Claim7.holds Tryd.pinned (.plain (OpenSpec.ofChange fnWordsSpec)) fnWordsCard

/-- THE TIED CARD OF 'laws.FnExactSayAll'. -/
def fnExactSayAllCard : Claim7 := { stood := { row := fnExactSayAllRow, standIns := [], harness := (true, "16fe371b551e690962b5cbce725769b02f46070a3b315227e5169e47c8bc0152"), looks := true }, kinds := [], alts := [], laidByText := true, laidKinds := [.data, .data, .data, .sentinel, .sentinel], laidTests := true, laidLooks := .later }
def FnExactSayAllCardSaid : Prop := Claim7.holds Tryd.pinned (.plain (OpenSpec.ofChange fnExactSayAllSpec)) fnExactSayAllCard

/-- THE TIED CARD OF 'laws.FnExactParseCommand'. -/
def fnExactParseCommandCard : Claim7 := { stood := { row := fnExactParseCommandRow, standIns := [], harness := (true, "16fe371b551e690962b5cbce725769b02f46070a3b315227e5169e47c8bc0152"), looks := true }, kinds := [], alts := [], laidByText := true, laidKinds := [.data, .data, .data, .sentinel, .sentinel], laidTests := true, laidLooks := .later }
def FnExactParseCommandCardSaid : Prop := Claim7.holds Tryd.pinned (.plain (OpenSpec.ofChange fnExactParseCommandSpec)) fnExactParseCommandCard

/-- THE TIED CARD OF 'laws.FnExactReadLine'. -/
def fnExactReadLineCard : Claim7 := { stood := { row := fnExactReadLineRow, standIns := [], harness := (true, "16fe371b551e690962b5cbce725769b02f46070a3b315227e5169e47c8bc0152"), looks := true }, kinds := [], alts := [], laidByText := true, laidKinds := [.data, .data, .data, .data, .sentinel, .sentinel, .pinned], laidTests := true, laidLooks := .later }
def FnExactReadLineCardSaid : Prop := Claim7.holds Tryd.pinned (.plain (OpenSpec.ofChange fnExactReadLineSpec)) fnExactReadLineCard

/-- THE TIED CARD OF 'laws.FnExactOverLine'. -/
def fnExactOverLineCard : Claim7 := { stood := { row := fnExactOverLineRow, standIns := [], harness := (true, "16fe371b551e690962b5cbce725769b02f46070a3b315227e5169e47c8bc0152"), looks := true }, kinds := [], alts := [], laidByText := true, laidKinds := [.data, .data, .data, .data, .pinned], laidTests := true, laidLooks := .later }
def FnExactOverLineCardSaid : Prop := Claim7.holds Tryd.pinned (.plain (OpenSpec.ofChange fnExactOverLineSpec)) fnExactOverLineCard

/-- THE SECOND FORM's CARD OF 'laws.FnExactViewUpdates'. -/
def fnExactViewUpdatesUptoCard : Claim7 := { stood := { row := fnExactViewUpdatesUptoRow, standIns := [], harness := (true, "16fe371b551e690962b5cbce725769b02f46070a3b315227e5169e47c8bc0152"), looks := true }, kinds := [], alts := [], laidByText := true, laidKinds := [.data, .data, .data], laidTests := true, laidLooks := .later }
def FnExactViewUpdatesUptoCardSaid : Prop := Claim7.holds Tryd.pinned (.plain (OpenSpec.upto fnExactViewUpdatesSpec)) fnExactViewUpdatesUptoCard

/-- THE SECOND FORM's CARD OF 'laws.FnWords'. -/
def fnWordsUptoCard : Claim7 := { stood := { row := fnWordsUptoRow, standIns := [], harness := (true, "16fe371b551e690962b5cbce725769b02f46070a3b315227e5169e47c8bc0152"), looks := true }, kinds := [], alts := [], laidByText := true, laidKinds := [.data, .pinned], laidTests := true, laidLooks := .later }
def FnWordsUptoCardSaid : Prop := Claim7.holds Tryd.pinned (.plain (OpenSpec.upto fnWordsSpec)) fnWordsUptoCard

/-- THE SECOND FORM's CARD OF 'laws.FnExactSayAll'. -/
def fnExactSayAllUptoCard : Claim7 := { stood := { row := fnExactSayAllUptoRow, standIns := [], harness := (true, "16fe371b551e690962b5cbce725769b02f46070a3b315227e5169e47c8bc0152"), looks := true }, kinds := [], alts := [], laidByText := true, laidKinds := [.data, .data, .data, .sentinel, .sentinel], laidTests := true, laidLooks := .later }
def FnExactSayAllUptoCardSaid : Prop := Claim7.holds Tryd.pinned (.plain (OpenSpec.upto fnExactSayAllSpec)) fnExactSayAllUptoCard

/-- THE SECOND FORM's CARD OF 'laws.FnExactParseCommand'. -/
def fnExactParseCommandUptoCard : Claim7 := { stood := { row := fnExactParseCommandUptoRow, standIns := [], harness := (true, "16fe371b551e690962b5cbce725769b02f46070a3b315227e5169e47c8bc0152"), looks := true }, kinds := [], alts := [], laidByText := true, laidKinds := [.data, .data, .data, .sentinel, .sentinel], laidTests := true, laidLooks := .later }
def FnExactParseCommandUptoCardSaid : Prop := Claim7.holds Tryd.pinned (.plain (OpenSpec.upto fnExactParseCommandSpec)) fnExactParseCommandUptoCard

/-- THE SECOND FORM's CARD OF 'laws.FnExactReadLine'. -/
def fnExactReadLineUptoCard : Claim7 := { stood := { row := fnExactReadLineUptoRow, standIns := [], harness := (true, "16fe371b551e690962b5cbce725769b02f46070a3b315227e5169e47c8bc0152"), looks := true }, kinds := [], alts := [], laidByText := true, laidKinds := [.data, .data, .data, .data, .sentinel, .sentinel, .pinned], laidTests := true, laidLooks := .later }
def FnExactReadLineUptoCardSaid : Prop := Claim7.holds Tryd.pinned (.plain (OpenSpec.upto fnExactReadLineSpec)) fnExactReadLineUptoCard

/-- THE SECOND FORM's CARD OF 'laws.FnExactOverLine'. -/
def fnExactOverLineUptoCard : Claim7 := { stood := { row := fnExactOverLineUptoRow, standIns := [], harness := (true, "16fe371b551e690962b5cbce725769b02f46070a3b315227e5169e47c8bc0152"), looks := true }, kinds := [], alts := [], laidByText := true, laidKinds := [.data, .data, .data, .data, .pinned], laidTests := true, laidLooks := .later }
def FnExactOverLineUptoCardSaid : Prop := Claim7.holds Tryd.pinned (.plain (OpenSpec.upto fnExactOverLineSpec)) fnExactOverLineUptoCard
end Rows
end Go.Proofs.YtnphhnhnmohfiaaDoor
