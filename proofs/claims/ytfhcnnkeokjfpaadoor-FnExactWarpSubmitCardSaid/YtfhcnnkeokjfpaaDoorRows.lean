/-
  NARROWER THAN 'FOR EVERY INPUT', by the rows' own cells (each row's printed sentence says how): FnExactWarpOk: laid · FnExactWarpGroup: laid · FnExactWarpSubmit: laid · FnExactMachOk: laid · FnExactQuiet: laid.
  DERIVED. THE GIVEN ROWS OF THIS SEAT. 5 by the template 'for every input the law returns true; each argument reads behind the call as it read before'; 0 by the template 'total and deterministic' (their statements: YtfhcnnkeokjfpaaDoorTotals.lean).
  GIVEN WITH THE SEED: the statements are not yours to turn. If you find one false, say at which input.
  Laid BY PROGRAM, IN A SANDBOX (cutbox-rows.mjs): the forced cells as the released guide's own fill.sh prints them over the translation d2afa5968ab96629… (all of the seat's roots in one cut). By AI agents, Wed Nov 11 2026. No macro, syntax, notation, axiom, sorry.
-/
import Derived.Test.YtfhcnnkeokjfpaaDoorChecked
import GoSem.Claim
import GoSem.ClaimJoined
import GoSem.ClaimMapViews
import Derived.JoinedTies
import Derived.KernelRfl
namespace Go.Proofs.YtfhcnnkeokjfpaaDoor
/- THE CELL 'sum', in the pinned program and in every row, IS THE sha256 OF THE DUMP (.gsa) THAT YtfhcnnkeokjfpaaDoorProg.lean LOADS. Nothing in Lean hashes anything: it is a label: what it is worth is what the hold of that sum in a sandbox is worth. -/
noncomputable def Tryd.pinned : Pinned := { name := "ytfhcnnkeokjfpaadoor", sum := "d2afa5968ab96629555bda029272a5bb7ae1bc3b2635c65a4c7fe2b4bd24cd88", checked := Tryd.checked }
namespace Rows
def none {H : Type} : Left H := { results := [], args := [] }

/- WHAT THE LISTED PACKAGE-LEVEL VARIABLES READ AS WHEN THE CALL BEGINS. Each datum BY PROGRAM (the guide's laid-datum.mjs) off the statement by which the dump's own 'gosem.cut.vars' lays the variable. In a bare row this is a premise. The card (YtfhcnnkeokjfpaaDoorCards.lean) ties it to the program's text. -/
def laid_math_bits_deBruijn32tab {H : Type} : DataW H := .agg [.lit (.int .u8 0), .lit (.int .u8 1), .lit (.int .u8 28), .lit (.int .u8 2), .lit (.int .u8 29), .lit (.int .u8 14), .lit (.int .u8 24), .lit (.int .u8 3), .lit (.int .u8 30), .lit (.int .u8 22), .lit (.int .u8 20), .lit (.int .u8 15), .lit (.int .u8 25), .lit (.int .u8 17), .lit (.int .u8 4), .lit (.int .u8 8), .lit (.int .u8 31), .lit (.int .u8 27), .lit (.int .u8 13), .lit (.int .u8 23), .lit (.int .u8 21), .lit (.int .u8 19), .lit (.int .u8 16), .lit (.int .u8 7), .lit (.int .u8 26), .lit (.int .u8 12), .lit (.int .u8 18), .lit (.int .u8 6), .lit (.int .u8 11), .lit (.int .u8 5), .lit (.int .u8 10), .lit (.int .u8 9)]

/-- 'laws.FnExactWarpOk': WHATEVER THE INPUT: true; the input reads as it did. -/
def fnExactWarpOkSpec : ChangeSpec := { name := "fnExactWarpOk", fn := fun _ => fun
  | [d1, d2] => { results := [.lit (.bool true)], args := [d1, d2] }
  | _ => none }
def fnExactWarpOkRow : OpenClaim := { program := "ytfhcnnkeokjfpaadoor", sum := "d2afa5968ab96629555bda029272a5bb7ae1bc3b2635c65a4c7fe2b4bd24cd88", func := "loop.example/g00709/laws.FnExactWarpOk", spec := "fnExactWarpOk", unfollowed := true, recurses := true, named := ["math/bits.deBruijn32tab"], apart := false, laid := [("math/bits.deBruijn32tab", laid_math_bits_deBruijn32tab)] }
def FnExactWarpOkSaid : Prop := fnExactWarpOkRow.holds Tryd.pinned (OpenSpec.ofChange fnExactWarpOkSpec)

/-- ITS FALSE NEIGHBOUR: 'it returns false'. Refute it at one input. -/
def fnExactWarpOkWrong : ChangeSpec := { name := "fnExactWarpOk", fn := fun _ => fun
  | [d1, d2] => { results := [.lit (.bool false)], args := [d1, d2] }
  | _ => none }
def FnExactWarpOkWrongFalsely : Prop := fnExactWarpOkRow.holds Tryd.pinned (OpenSpec.ofChange fnExactWarpOkWrong)

/-- 'laws.FnExactWarpGroup': WHATEVER THE INPUT: true; the input reads as it did. -/
def fnExactWarpGroupSpec : ChangeSpec := { name := "fnExactWarpGroup", fn := fun _ => fun
  | [d] => { results := [.lit (.bool true)], args := [d] }
  | _ => none }
def fnExactWarpGroupRow : OpenClaim := { program := "ytfhcnnkeokjfpaadoor", sum := "d2afa5968ab96629555bda029272a5bb7ae1bc3b2635c65a4c7fe2b4bd24cd88", func := "loop.example/g00709/laws.FnExactWarpGroup", spec := "fnExactWarpGroup", unfollowed := true, recurses := true, named := ["math/bits.deBruijn32tab"], apart := false, laid := [("math/bits.deBruijn32tab", laid_math_bits_deBruijn32tab)] }
def FnExactWarpGroupSaid : Prop := fnExactWarpGroupRow.holds Tryd.pinned (OpenSpec.ofChange fnExactWarpGroupSpec)

/-- ITS FALSE NEIGHBOUR: 'it returns false'. Refute it at one input. -/
def fnExactWarpGroupWrong : ChangeSpec := { name := "fnExactWarpGroup", fn := fun _ => fun
  | [d] => { results := [.lit (.bool false)], args := [d] }
  | _ => none }
def FnExactWarpGroupWrongFalsely : Prop := fnExactWarpGroupRow.holds Tryd.pinned (OpenSpec.ofChange fnExactWarpGroupWrong)

/-- 'laws.FnExactWarpSubmit': WHATEVER THE INPUT: true; the input reads as it did. -/
def fnExactWarpSubmitSpec : ChangeSpec := { name := "fnExactWarpSubmit", fn := fun _ => fun
  | [d1, d2] => { results := [.lit (.bool true)], args := [d1, d2] }
  | _ => none }
def fnExactWarpSubmitRow : OpenClaim := { program := "ytfhcnnkeokjfpaadoor", sum := "d2afa5968ab96629555bda029272a5bb7ae1bc3b2635c65a4c7fe2b4bd24cd88", func := "loop.example/g00709/laws.FnExactWarpSubmit", spec := "fnExactWarpSubmit", unfollowed := true, recurses := true, named := ["math/bits.deBruijn32tab"], apart := false, laid := [("math/bits.deBruijn32tab", laid_math_bits_deBruijn32tab)] }
def FnExactWarpSubmitSaid : Prop := fnExactWarpSubmitRow.holds Tryd.pinned (OpenSpec.ofChange fnExactWarpSubmitSpec)

/-- ITS FALSE NEIGHBOUR: 'it returns false'. Refute it at one input. -/
def fnExactWarpSubmitWrong : ChangeSpec := { name := "fnExactWarpSubmit", fn := fun _ => fun
  | [d1, d2] => { results := [.lit (.bool false)], args := [d1, d2] }
  | _ => none }
def FnExactWarpSubmitWrongFalsely : Prop := fnExactWarpSubmitRow.holds Tryd.pinned (OpenSpec.ofChange fnExactWarpSubmitWrong)

/-- 'laws.FnExactMachOk': WHATEVER THE INPUT: true; the input reads as it did. -/
def fnExactMachOkSpec : ChangeSpec := { name := "fnExactMachOk", fn := fun _ => fun
  | [d] => { results := [.lit (.bool true)], args := [d] }
  | _ => none }
def fnExactMachOkRow : OpenClaim := { program := "ytfhcnnkeokjfpaadoor", sum := "d2afa5968ab96629555bda029272a5bb7ae1bc3b2635c65a4c7fe2b4bd24cd88", func := "loop.example/g00709/laws.FnExactMachOk", spec := "fnExactMachOk", unfollowed := true, recurses := true, named := ["math/bits.deBruijn32tab"], apart := false, laid := [("math/bits.deBruijn32tab", laid_math_bits_deBruijn32tab)] }
def FnExactMachOkSaid : Prop := fnExactMachOkRow.holds Tryd.pinned (OpenSpec.ofChange fnExactMachOkSpec)

/-- ITS FALSE NEIGHBOUR: 'it returns false'. Refute it at one input. -/
def fnExactMachOkWrong : ChangeSpec := { name := "fnExactMachOk", fn := fun _ => fun
  | [d] => { results := [.lit (.bool false)], args := [d] }
  | _ => none }
def FnExactMachOkWrongFalsely : Prop := fnExactMachOkRow.holds Tryd.pinned (OpenSpec.ofChange fnExactMachOkWrong)

/-- 'laws.FnExactQuiet': WHATEVER THE INPUT: true; the input reads as it did. -/
def fnExactQuietSpec : ChangeSpec := { name := "fnExactQuiet", fn := fun _ => fun
  | [d] => { results := [.lit (.bool true)], args := [d] }
  | _ => none }
def fnExactQuietRow : OpenClaim := { program := "ytfhcnnkeokjfpaadoor", sum := "d2afa5968ab96629555bda029272a5bb7ae1bc3b2635c65a4c7fe2b4bd24cd88", func := "loop.example/g00709/laws.FnExactQuiet", spec := "fnExactQuiet", unfollowed := true, recurses := true, named := ["math/bits.deBruijn32tab"], apart := false, laid := [("math/bits.deBruijn32tab", laid_math_bits_deBruijn32tab)] }
def FnExactQuietSaid : Prop := fnExactQuietRow.holds Tryd.pinned (OpenSpec.ofChange fnExactQuietSpec)

/-- ITS FALSE NEIGHBOUR: 'it returns false'. Refute it at one input. -/
def fnExactQuietWrong : ChangeSpec := { name := "fnExactQuiet", fn := fun _ => fun
  | [d] => { results := [.lit (.bool false)], args := [d] }
  | _ => none }
def FnExactQuietWrongFalsely : Prop := fnExactQuietRow.holds Tryd.pinned (OpenSpec.ofChange fnExactQuietWrong)

/- THE SECOND FORM. 'bulk': how many values and letters a reading holds, each counted each time it is reached (what is shared counts as often as it is met; a slice's spare places count too). A statement '..UptoSaid' is the law's where the arguments, and the package variables that the reading takes, are together of bulk at most 1048576: NARROWER than '..Said'. Prove '..Said' where nothing that the law and all that it calls make is longer than what came in: it says more and counts as full. Else prove '..UptoSaid'. A law counts once. -/
mutual
def uptoBulk {H : Type} : DataW H → Nat
  | .lit (.string bytes) => bytes.length + 1
  | .lit _ => 1
  | .nil => 1
  | .ptr d => uptoBulk d + 1
  | .slice elems spare => uptoBulkAll elems + uptoBulkAll spare + 1
  | .agg parts => uptoBulkAll parts + 1
  | .iface _ d => uptoBulk d + 1
  | .map entries => uptoBulkEntries entries + 1
  | .held _ => 1
def uptoBulkAll {H : Type} : List (DataW H) → Nat
  | [] => 0
  | d :: r => uptoBulk d + uptoBulkAll r
def uptoBulkEntries {H : Type} : List (Lit × DataW H) → Nat
  | [] => 0
  | x :: r => uptoBulkEntry x + uptoBulkEntries r
def uptoBulkEntry {H : Type} : Lit × DataW H → Nat
  | (.string bytes, d) => bytes.length + uptoBulk d + 1
  | (_, d) => uptoBulk d + 1
 end
def uptoSmall : (H : Type) → List (DataW H) → Bool := fun _ ds => decide (uptoBulkAll ds ≤ 1048576)
def OpenSpec.upto (s : _root_.Go.ChangeSpec) : _root_.Go.OpenSpec := { _root_.Go.OpenSpec.ofChange s with cond := some uptoSmall }

/-- 'laws.FnExactWarpOk', WHERE WHAT IT READS IS OF BULK AT MOST 1048576: true; the input reads as it did. -/
def fnExactWarpOkUptoRow : OpenClaim := { program := "ytfhcnnkeokjfpaadoor", sum := "d2afa5968ab96629555bda029272a5bb7ae1bc3b2635c65a4c7fe2b4bd24cd88", func := "loop.example/g00709/laws.FnExactWarpOk", spec := "fnExactWarpOk", unfollowed := true, recurses := true, named := ["math/bits.deBruijn32tab"], apart := false, laid := [("math/bits.deBruijn32tab", laid_math_bits_deBruijn32tab)], narrowed := true }
def FnExactWarpOkUptoSaid : Prop := fnExactWarpOkUptoRow.holds Tryd.pinned (OpenSpec.upto fnExactWarpOkSpec)

/-- 'laws.FnExactWarpGroup', WHERE WHAT IT READS IS OF BULK AT MOST 1048576: true; the input reads as it did. -/
def fnExactWarpGroupUptoRow : OpenClaim := { program := "ytfhcnnkeokjfpaadoor", sum := "d2afa5968ab96629555bda029272a5bb7ae1bc3b2635c65a4c7fe2b4bd24cd88", func := "loop.example/g00709/laws.FnExactWarpGroup", spec := "fnExactWarpGroup", unfollowed := true, recurses := true, named := ["math/bits.deBruijn32tab"], apart := false, laid := [("math/bits.deBruijn32tab", laid_math_bits_deBruijn32tab)], narrowed := true }
def FnExactWarpGroupUptoSaid : Prop := fnExactWarpGroupUptoRow.holds Tryd.pinned (OpenSpec.upto fnExactWarpGroupSpec)

/-- 'laws.FnExactWarpSubmit', WHERE WHAT IT READS IS OF BULK AT MOST 1048576: true; the input reads as it did. -/
def fnExactWarpSubmitUptoRow : OpenClaim := { program := "ytfhcnnkeokjfpaadoor", sum := "d2afa5968ab96629555bda029272a5bb7ae1bc3b2635c65a4c7fe2b4bd24cd88", func := "loop.example/g00709/laws.FnExactWarpSubmit", spec := "fnExactWarpSubmit", unfollowed := true, recurses := true, named := ["math/bits.deBruijn32tab"], apart := false, laid := [("math/bits.deBruijn32tab", laid_math_bits_deBruijn32tab)], narrowed := true }
def FnExactWarpSubmitUptoSaid : Prop := fnExactWarpSubmitUptoRow.holds Tryd.pinned (OpenSpec.upto fnExactWarpSubmitSpec)

/-- 'laws.FnExactMachOk', WHERE WHAT IT READS IS OF BULK AT MOST 1048576: true; the input reads as it did. -/
def fnExactMachOkUptoRow : OpenClaim := { program := "ytfhcnnkeokjfpaadoor", sum := "d2afa5968ab96629555bda029272a5bb7ae1bc3b2635c65a4c7fe2b4bd24cd88", func := "loop.example/g00709/laws.FnExactMachOk", spec := "fnExactMachOk", unfollowed := true, recurses := true, named := ["math/bits.deBruijn32tab"], apart := false, laid := [("math/bits.deBruijn32tab", laid_math_bits_deBruijn32tab)], narrowed := true }
def FnExactMachOkUptoSaid : Prop := fnExactMachOkUptoRow.holds Tryd.pinned (OpenSpec.upto fnExactMachOkSpec)

/-- 'laws.FnExactQuiet', WHERE WHAT IT READS IS OF BULK AT MOST 1048576: true; the input reads as it did. -/
def fnExactQuietUptoRow : OpenClaim := { program := "ytfhcnnkeokjfpaadoor", sum := "d2afa5968ab96629555bda029272a5bb7ae1bc3b2635c65a4c7fe2b4bd24cd88", func := "loop.example/g00709/laws.FnExactQuiet", spec := "fnExactQuiet", unfollowed := true, recurses := true, named := ["math/bits.deBruijn32tab"], apart := false, laid := [("math/bits.deBruijn32tab", laid_math_bits_deBruijn32tab)], narrowed := true }
def FnExactQuietUptoSaid : Prop := fnExactQuietUptoRow.holds Tryd.pinned (OpenSpec.upto fnExactQuietSpec)

end Rows
end Go.Proofs.YtfhcnnkeokjfpaaDoor
