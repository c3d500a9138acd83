/-
  DERIVED. GIVEN WITH THE SEED: THE CARDS: each row of YtfhcnnkeokjfpaaGreatDoorRows.lean that lists a variable, with what it lists TIED to the program's text (the seventh form; the later family's looks); each row that meets fmt, with fmt's text TOLD by the authors' own Lean function (tested against real Go, not proved from fmt's source: count such statements apart). THE CARD IS WHAT COUNTS. Prove the row's statement (the work); the ties are given (YtfhcnnkeokjfpaaGreatDoorTie.lean); close each card by the builder's one call (the guide's Derived/Test/ToyasCard.lean, 'card_holds'). Laid BY PROGRAM, IN A SANDBOX (cutbox-door.mjs). By AI agents, Wed Nov 11 2026. No macro, syntax, notation, axiom, sorry.
-/
import Derived.Test.YtfhcnnkeokjfpaaGreatDoorRows
import GoSem.ClaimSeven
namespace Go.Proofs.YtfhcnnkeokjfpaaGreatDoor
namespace Rows

/-- THE TIED CARD OF 'laws.FnExactOwners'. -/
def fnExactOwnersCard : Claim7 := { stood := { row := fnExactOwnersRow, standIns := [], harness := (true, "71934e22f63cd231fd78899afaeb36cf6f39b1cba768f749590aa86e09ed84cf"), looks := false }, kinds := [], alts := [], laidByText := true, laidKinds := [.data], laidTests := true, laidLooks := .later }
def FnExactOwnersCardSaid : Prop := Claim7.holds Tryz.pinned (.plain (OpenSpec.ofChange fnExactOwnersSpec)) fnExactOwnersCard

/-- THE SECOND FORM's CARD OF 'laws.FnExactOwners'. -/
def fnExactOwnersUptoCard : Claim7 := { stood := { row := fnExactOwnersUptoRow, standIns := [], harness := (true, "71934e22f63cd231fd78899afaeb36cf6f39b1cba768f749590aa86e09ed84cf"), looks := false }, kinds := [], alts := [], laidByText := true, laidKinds := [.data], laidTests := true, laidLooks := .later }
def FnExactOwnersUptoCardSaid : Prop := Claim7.holds Tryz.pinned (.plain (OpenSpec.upto fnExactOwnersSpec)) fnExactOwnersUptoCard
end Rows
end Go.Proofs.YtfhcnnkeokjfpaaGreatDoor
