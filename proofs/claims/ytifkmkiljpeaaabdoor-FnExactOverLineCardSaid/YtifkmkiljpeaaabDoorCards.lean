/-
  DERIVED. GIVEN WITH THE SEED: THE CARDS: each row of YtifkmkiljpeaaabDoorRows.lean that lists a variable, with what it lists TIED to the program's text (the seventh form; the later family's looks); each row that meets fmt, with fmt's text TOLD by the authors' own Lean function (tested against real Go, not proved from fmt's source: count such statements apart). THE CARD IS WHAT COUNTS. Prove the row's statement (the work); the ties are given (YtifkmkiljpeaaabDoorTie.lean); close each card by the builder's one call (the guide's Derived/Test/ToyasCard.lean, 'card_holds'). Laid BY PROGRAM, IN A SANDBOX (cutbox-door.mjs). By AI agents, Wed Nov 11 2026. No macro, syntax, notation, axiom, sorry.
-/
import Derived.Test.YtifkmkiljpeaaabDoorRows
import GoSem.ClaimSeven
namespace Go.Proofs.YtifkmkiljpeaaabDoor
namespace Rows

/-- THE TIED CARD OF 'laws.FnExactOverLine'. -/
def fnExactOverLineCard : Claim7 := { stood := { row := fnExactOverLineRow, standIns := [], harness := (true, "f89b37c7f929226f8c6c0b3cb39fbee85bc8a1b6b76dd5543299e6eecf845975"), looks := false }, kinds := [], alts := [], laidByText := true, laidKinds := [.data, .data, .data, .data, .pinned], laidTests := true, laidLooks := .later }
def FnExactOverLineCardSaid : Prop := Claim7.holds Tryd.pinned (.plain (OpenSpec.ofChange fnExactOverLineSpec)) fnExactOverLineCard

/-- THE SECOND FORM's CARD OF 'laws.FnExactOverLine'. -/
def fnExactOverLineUptoCard : Claim7 := { stood := { row := fnExactOverLineUptoRow, standIns := [], harness := (true, "f89b37c7f929226f8c6c0b3cb39fbee85bc8a1b6b76dd5543299e6eecf845975"), looks := false }, kinds := [], alts := [], laidByText := true, laidKinds := [.data, .data, .data, .data, .pinned], laidTests := true, laidLooks := .later }
def FnExactOverLineUptoCardSaid : Prop := Claim7.holds Tryd.pinned (.plain (OpenSpec.upto fnExactOverLineSpec)) fnExactOverLineUptoCard
end Rows
end Go.Proofs.YtifkmkiljpeaaabDoor
