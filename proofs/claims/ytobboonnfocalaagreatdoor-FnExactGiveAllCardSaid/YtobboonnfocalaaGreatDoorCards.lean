/-
  DERIVED. GIVEN WITH THE SEED: THE CARDS: each row of YtobboonnfocalaaGreatDoorRows.lean that lists a variable, with what it lists TIED to the program's text (the seventh form; the later family's looks); each row that meets fmt, with fmt's text TOLD by the authors' own Lean function (tested against real Go, not proved from fmt's source: count such statements apart). THE CARD IS WHAT COUNTS. Prove the row's statement (the work); the ties are given (YtobboonnfocalaaGreatDoorTie.lean); close each card by the builder's one call (the guide's Derived/Test/ToyasCard.lean, 'card_holds'). Laid BY PROGRAM, IN A SANDBOX (cutbox-door.mjs). By AI agents, Wed Nov 11 2026. No macro, syntax, notation, axiom, sorry.
-/
import Derived.Test.YtobboonnfocalaaGreatDoorRows
import GoSem.ClaimSeven
namespace Go.Proofs.YtobboonnfocalaaGreatDoor
namespace Rows

/-- THE TIED CARD OF 'laws.FnExactGiveAll'. -/
def fnExactGiveAllCard : Claim7 := { stood := { row := fnExactGiveAllRow, standIns := [], harness := (true, "d03195bd9bf010518b5fd47f79c234c99e74cf575048f43897e46f26d234cca4"), looks := false }, kinds := [], alts := [], laidByText := true, laidKinds := [.data], laidTests := true, laidLooks := .later }
def FnExactGiveAllCardSaid : Prop := Claim7.holds Tryz.pinned (.plain (OpenSpec.ofChange fnExactGiveAllSpec)) fnExactGiveAllCard

/-- THE SECOND FORM's CARD OF 'laws.FnExactGiveAll'. -/
def fnExactGiveAllUptoCard : Claim7 := { stood := { row := fnExactGiveAllUptoRow, standIns := [], harness := (true, "d03195bd9bf010518b5fd47f79c234c99e74cf575048f43897e46f26d234cca4"), looks := false }, kinds := [], alts := [], laidByText := true, laidKinds := [.data], laidTests := true, laidLooks := .later }
def FnExactGiveAllUptoCardSaid : Prop := Claim7.holds Tryz.pinned (.plain (OpenSpec.upto fnExactGiveAllSpec)) fnExactGiveAllUptoCard
end Rows
end Go.Proofs.YtobboonnfocalaaGreatDoor
