/-
  DERIVED. GIVEN WITH THE SEED: THE CARDS: each row of YtfhcnnkeokjfpaaDoorRows.lean that lists a variable, with what it lists TIED to the program's text (the seventh form; the later family's looks); each row that meets fmt, with fmt's text TOLD by the authors' own Lean function (tested against real Go, not proved from fmt's source: count such statements apart). THE CARD IS WHAT COUNTS. Prove the row's statement (the work); the ties are given (YtfhcnnkeokjfpaaDoorTie.lean); close each card by the builder's one call (the guide's Derived/Test/ToyasCard.lean, 'card_holds'). Laid BY PROGRAM, IN A SANDBOX (cutbox-door.mjs). By AI agents, Wed Nov 11 2026. No macro, syntax, notation, axiom, sorry.
-/
import Derived.Test.YtfhcnnkeokjfpaaDoorRows
import GoSem.ClaimSeven
namespace Go.Proofs.YtfhcnnkeokjfpaaDoor
namespace Rows

/-- THE TIED CARD OF 'laws.FnExactWarpOk'. -/
def fnExactWarpOkCard : Claim7 := { stood := { row := fnExactWarpOkRow, standIns := [], harness := (true, "00b72d6f363f995a11670f65d5cfbc0d47a47563b42b0e5cc807aa7544c10e7c"), looks := false }, kinds := [], alts := [], laidByText := true, laidKinds := [.data], laidTests := true, laidLooks := .later }
def FnExactWarpOkCardSaid : Prop := Claim7.holds Tryd.pinned (.plain (OpenSpec.ofChange fnExactWarpOkSpec)) fnExactWarpOkCard

/-- THE TIED CARD OF 'laws.FnExactWarpGroup'. -/
def fnExactWarpGroupCard : Claim7 := { stood := { row := fnExactWarpGroupRow, standIns := [], harness := (true, "00b72d6f363f995a11670f65d5cfbc0d47a47563b42b0e5cc807aa7544c10e7c"), looks := false }, kinds := [], alts := [], laidByText := true, laidKinds := [.data], laidTests := true, laidLooks := .later }
def FnExactWarpGroupCardSaid : Prop := Claim7.holds Tryd.pinned (.plain (OpenSpec.ofChange fnExactWarpGroupSpec)) fnExactWarpGroupCard

/-- THE TIED CARD OF 'laws.FnExactWarpSubmit'. -/
def fnExactWarpSubmitCard : Claim7 := { stood := { row := fnExactWarpSubmitRow, standIns := [], harness := (true, "00b72d6f363f995a11670f65d5cfbc0d47a47563b42b0e5cc807aa7544c10e7c"), looks := false }, kinds := [], alts := [], laidByText := true, laidKinds := [.data], laidTests := true, laidLooks := .later }
def FnExactWarpSubmitCardSaid : Prop := Claim7.holds Tryd.pinned (.plain (OpenSpec.ofChange fnExactWarpSubmitSpec)) fnExactWarpSubmitCard

/-- THE TIED CARD OF 'laws.FnExactMachOk'. -/
def fnExactMachOkCard : Claim7 := { stood := { row := fnExactMachOkRow, standIns := [], harness := (true, "00b72d6f363f995a11670f65d5cfbc0d47a47563b42b0e5cc807aa7544c10e7c"), looks := false }, kinds := [], alts := [], laidByText := true, laidKinds := [.data], laidTests := true, laidLooks := .later }
def FnExactMachOkCardSaid : Prop := Claim7.holds Tryd.pinned (.plain (OpenSpec.ofChange fnExactMachOkSpec)) fnExactMachOkCard

/-- THE TIED CARD OF 'laws.FnExactQuiet'. -/
def fnExactQuietCard : Claim7 := { stood := { row := fnExactQuietRow, standIns := [], harness := (true, "00b72d6f363f995a11670f65d5cfbc0d47a47563b42b0e5cc807aa7544c10e7c"), looks := false }, kinds := [], alts := [], laidByText := true, laidKinds := [.data], laidTests := true, laidLooks := .later }
def FnExactQuietCardSaid : Prop := Claim7.holds Tryd.pinned (.plain (OpenSpec.ofChange fnExactQuietSpec)) fnExactQuietCard

/-- THE SECOND FORM's CARD OF 'laws.FnExactWarpOk'. -/
def fnExactWarpOkUptoCard : Claim7 := { stood := { row := fnExactWarpOkUptoRow, standIns := [], harness := (true, "00b72d6f363f995a11670f65d5cfbc0d47a47563b42b0e5cc807aa7544c10e7c"), looks := false }, kinds := [], alts := [], laidByText := true, laidKinds := [.data], laidTests := true, laidLooks := .later }
def FnExactWarpOkUptoCardSaid : Prop := Claim7.holds Tryd.pinned (.plain (OpenSpec.upto fnExactWarpOkSpec)) fnExactWarpOkUptoCard

/-- THE SECOND FORM's CARD OF 'laws.FnExactWarpGroup'. -/
def fnExactWarpGroupUptoCard : Claim7 := { stood := { row := fnExactWarpGroupUptoRow, standIns := [], harness := (true, "00b72d6f363f995a11670f65d5cfbc0d47a47563b42b0e5cc807aa7544c10e7c"), looks := false }, kinds := [], alts := [], laidByText := true, laidKinds := [.data], laidTests := true, laidLooks := .later }
def FnExactWarpGroupUptoCardSaid : Prop := Claim7.holds Tryd.pinned (.plain (OpenSpec.upto fnExactWarpGroupSpec)) fnExactWarpGroupUptoCard

/-- THE SECOND FORM's CARD OF 'laws.FnExactWarpSubmit'. -/
def fnExactWarpSubmitUptoCard : Claim7 := { stood := { row := fnExactWarpSubmitUptoRow, standIns := [], harness := (true, "00b72d6f363f995a11670f65d5cfbc0d47a47563b42b0e5cc807aa7544c10e7c"), looks := false }, kinds := [], alts := [], laidByText := true, laidKinds := [.data], laidTests := true, laidLooks := .later }
def FnExactWarpSubmitUptoCardSaid : Prop := Claim7.holds Tryd.pinned (.plain (OpenSpec.upto fnExactWarpSubmitSpec)) fnExactWarpSubmitUptoCard

/-- THE SECOND FORM's CARD OF 'laws.FnExactMachOk'. -/
def fnExactMachOkUptoCard : Claim7 := { stood := { row := fnExactMachOkUptoRow, standIns := [], harness := (true, "00b72d6f363f995a11670f65d5cfbc0d47a47563b42b0e5cc807aa7544c10e7c"), looks := false }, kinds := [], alts := [], laidByText := true, laidKinds := [.data], laidTests := true, laidLooks := .later }
def FnExactMachOkUptoCardSaid : Prop := Claim7.holds Tryd.pinned (.plain (OpenSpec.upto fnExactMachOkSpec)) fnExactMachOkUptoCard

/-- THE SECOND FORM's CARD OF 'laws.FnExactQuiet'. -/
def fnExactQuietUptoCard : Claim7 := { stood := { row := fnExactQuietUptoRow, standIns := [], harness := (true, "00b72d6f363f995a11670f65d5cfbc0d47a47563b42b0e5cc807aa7544c10e7c"), looks := false }, kinds := [], alts := [], laidByText := true, laidKinds := [.data], laidTests := true, laidLooks := .later }
def FnExactQuietUptoCardSaid : Prop := Claim7.holds Tryd.pinned (.plain (OpenSpec.upto fnExactQuietSpec)) fnExactQuietUptoCard
end Rows
end Go.Proofs.YtfhcnnkeokjfpaaDoor
