/-
  DERIVED. GIVEN WITH THE SEED: THE CARDS: each row of YtjfkhklbnjdbjaaDoorRows.lean that lists a variable, with what it lists TIED to the program's text (the seventh form; the later family's looks); each row that meets fmt, with fmt's text TOLD by the authors' own Lean function (tested against real Go, not proved from fmt's source: count such statements apart). THE CARD IS WHAT COUNTS. Prove the row's statement (the work); the ties are given (YtjfkhklbnjdbjaaDoorTie.lean); close each card by the builder's one call (the guide's Derived/Test/ToyasCard.lean, 'card_holds'). Laid BY PROGRAM, IN A SANDBOX (cutbox-door.mjs). By AI agents, Wed Nov 11 2026. No macro, syntax, notation, axiom, sorry.
-/
import Derived.Test.YtjfkhklbnjdbjaaDoorRows
import GoSem.ClaimSeven
namespace Go.Proofs.YtjfkhklbnjdbjaaDoor
namespace Rows

/-- THE TIED CARD OF 'laws.FnExactDotStuff'. -/
def fnExactDotStuffCard : Claim7 := { stood := { row := fnExactDotStuffRow, standIns := [], harness := (true, "fb1d2d7c6cfff179ff6a55a9fec7f3b555d58a2e0d0a28affbefedb7cc59625d"), looks := false }, kinds := [], alts := [], laidByText := true, laidKinds := [.data, .pinned], laidTests := true, laidLooks := .later }
def FnExactDotStuffCardSaid : Prop := Claim7.holds Tryd.pinned (.plain (OpenSpec.ofChange fnExactDotStuffSpec)) fnExactDotStuffCard

/-- THE TIED CARD OF 'laws.FnStuff'. -/
def fnStuffCard : Claim7 := { stood := { row := fnStuffRow, standIns := [], harness := (true, "fb1d2d7c6cfff179ff6a55a9fec7f3b555d58a2e0d0a28affbefedb7cc59625d"), looks := false }, kinds := [], alts := [], laidByText := true, laidKinds := [.data, .pinned], laidTests := true, laidLooks := .later }
def FnStuffCardSaid : Prop := Claim7.holds Tryd.pinned (.plain (OpenSpec.ofChange fnStuffSpec)) fnStuffCard

/-- THE SECOND FORM's CARD OF 'laws.FnExactDotStuff'. -/
def fnExactDotStuffUptoCard : Claim7 := { stood := { row := fnExactDotStuffUptoRow, standIns := [], harness := (true, "fb1d2d7c6cfff179ff6a55a9fec7f3b555d58a2e0d0a28affbefedb7cc59625d"), looks := false }, kinds := [], alts := [], laidByText := true, laidKinds := [.data, .pinned], laidTests := true, laidLooks := .later }
def FnExactDotStuffUptoCardSaid : Prop := Claim7.holds Tryd.pinned (.plain (OpenSpec.upto fnExactDotStuffSpec)) fnExactDotStuffUptoCard

/-- THE SECOND FORM's CARD OF 'laws.FnStuff'. -/
def fnStuffUptoCard : Claim7 := { stood := { row := fnStuffUptoRow, standIns := [], harness := (true, "fb1d2d7c6cfff179ff6a55a9fec7f3b555d58a2e0d0a28affbefedb7cc59625d"), looks := false }, kinds := [], alts := [], laidByText := true, laidKinds := [.data, .pinned], laidTests := true, laidLooks := .later }
def FnStuffUptoCardSaid : Prop := Claim7.holds Tryd.pinned (.plain (OpenSpec.upto fnStuffSpec)) fnStuffUptoCard
end Rows
end Go.Proofs.YtjfkhklbnjdbjaaDoor
