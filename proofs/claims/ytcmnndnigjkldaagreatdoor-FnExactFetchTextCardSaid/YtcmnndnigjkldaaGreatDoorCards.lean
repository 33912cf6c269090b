/-
  DERIVED. GIVEN WITH THE SEED: THE CARDS: each row of YtcmnndnigjkldaaGreatDoorRows.lean that lists a variable, with what it lists TIED to the program's text (the seventh form; the later family's looks); each row that meets fmt, with fmt's text TOLD by the authors' own Lean function (tested against real Go, not proved from fmt's source: count such statements apart). THE CARD IS WHAT COUNTS. Prove the row's statement (the work); the ties are given (YtcmnndnigjkldaaGreatDoorTie.lean); close each card by the builder's one call (the guide's Derived/Test/ToyasCard.lean, 'card_holds'). Laid BY PROGRAM, IN A SANDBOX (cutbox-door.mjs). By AI agents, Wed Nov 11 2026. No macro, syntax, notation, axiom, sorry.
-/
import Derived.Test.YtcmnndnigjkldaaGreatDoorRows
import GoSem.ClaimSeven
namespace Go.Proofs.YtcmnndnigjkldaaGreatDoor
namespace Rows

/-- THE TIED CARD OF 'laws.FnExactFetchText'. -/
def fnExactFetchTextCard : Claim7 := { stood := { row := fnExactFetchTextRow, standIns := [], harness := (true, "5099774dd133a8ae28ba98379683eab2ac1221ef3085092ff57ba82e8d0dba7b"), looks := false }, kinds := [], alts := [], laidByText := true, laidKinds := [.data, .data, .data, .data, .pinned], laidTests := true, laidLooks := .later }
def FnExactFetchTextCardSaid : Prop := Claim7.holds Tryz.pinned (.plain (OpenSpec.ofChange fnExactFetchTextSpec)) fnExactFetchTextCard

/-- THE SECOND FORM's CARD OF 'laws.FnExactFetchText'. -/
def fnExactFetchTextUptoCard : Claim7 := { stood := { row := fnExactFetchTextUptoRow, standIns := [], harness := (true, "5099774dd133a8ae28ba98379683eab2ac1221ef3085092ff57ba82e8d0dba7b"), looks := false }, kinds := [], alts := [], laidByText := true, laidKinds := [.data, .data, .data, .data, .pinned], laidTests := true, laidLooks := .later }
def FnExactFetchTextUptoCardSaid : Prop := Claim7.holds Tryz.pinned (.plain (OpenSpec.upto fnExactFetchTextSpec)) fnExactFetchTextUptoCard
end Rows
end Go.Proofs.YtcmnndnigjkldaaGreatDoor
