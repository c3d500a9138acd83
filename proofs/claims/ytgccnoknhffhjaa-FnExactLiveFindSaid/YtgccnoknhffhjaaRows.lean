/-
  No cell of these rows narrows 'for every input' (looked for: loops, veiled, ifaces, maps, wideKeys, modest, calm, conditions, laid).
  DERIVED. THE GIVEN ROWS OF THIS SEAT. 12 by the template 'for every input the law returns true; each argument reads behind the call as it read before'; 0 by the template 'total and deterministic' (their statements: YtgccnoknhffhjaaTotals.lean).
  GIVEN WITH THE SEED: the statements are not yours to turn. If you find one false, say at which input.
  Laid BY PROGRAM, IN A SANDBOX (cutbox-rows.mjs): the forced cells as the released guide's own fill.sh prints them over the translation 0438e352b29abad8… (all of the seat's roots in one cut). By AI agents, Wed Nov 11 2026. No macro, syntax, notation, axiom, sorry.
-/
import Derived.Test.YtgccnoknhffhjaaChecked
import GoSem.Claim
import GoSem.ClaimJoined
import GoSem.ClaimMapViews
import Derived.JoinedTies
import Derived.KernelRfl
namespace Go.Proofs.Ytgccnoknhffhjaa
/- THE CELL 'sum', in the pinned program and in every row, IS THE sha256 OF THE DUMP (.gsa) THAT YtgccnoknhffhjaaProg.lean LOADS. Nothing in Lean hashes anything: it is a label: what it is worth is what the hold of that sum in a sandbox is worth. -/
noncomputable def Try.pinned : Pinned := { name := "ytgccnoknhffhjaa", sum := "0438e352b29abad871000bf1a39de69680a0e7b62ab15e5d651796a7d49e5ae1", checked := Try.checked }
namespace Rows
def none {H : Type} : Left H := { results := [], args := [] }

/-- 'laws.FnExactLiveSum': WHATEVER THE INPUT: true; the input reads as it did. -/
def fnExactLiveSumSpec : ChangeSpec := { name := "fnExactLiveSum", fn := fun _ => fun
  | [d1, d2] => { results := [.lit (.bool true)], args := [d1, d2] }
  | _ => none }
def fnExactLiveSumRow : OpenClaim := { program := "ytgccnoknhffhjaa", sum := "0438e352b29abad871000bf1a39de69680a0e7b62ab15e5d651796a7d49e5ae1", func := "loop.example/g00709/laws.FnExactLiveSum", spec := "fnExactLiveSum", apart := false }
def FnExactLiveSumSaid : Prop := fnExactLiveSumRow.holds Try.pinned (OpenSpec.ofChange fnExactLiveSumSpec)

/-- ITS FALSE NEIGHBOUR: 'it returns false'. Refute it at one input. -/
def fnExactLiveSumWrong : ChangeSpec := { name := "fnExactLiveSum", fn := fun _ => fun
  | [d1, d2] => { results := [.lit (.bool false)], args := [d1, d2] }
  | _ => none }
def FnExactLiveSumWrongFalsely : Prop := fnExactLiveSumRow.holds Try.pinned (OpenSpec.ofChange fnExactLiveSumWrong)

/-- 'laws.FnExactLiveFind': WHATEVER THE INPUT: true; the input reads as it did. -/
def fnExactLiveFindSpec : ChangeSpec := { name := "fnExactLiveFind", fn := fun _ => fun
  | [d1, d2, d3] => { results := [.lit (.bool true)], args := [d1, d2, d3] }
  | _ => none }
def fnExactLiveFindRow : OpenClaim := { program := "ytgccnoknhffhjaa", sum := "0438e352b29abad871000bf1a39de69680a0e7b62ab15e5d651796a7d49e5ae1", func := "loop.example/g00709/laws.FnExactLiveFind", spec := "fnExactLiveFind", unfollowed := true, recurses := true, apart := false }
def FnExactLiveFindSaid : Prop := fnExactLiveFindRow.holds Try.pinned (OpenSpec.ofChange fnExactLiveFindSpec)

/-- ITS FALSE NEIGHBOUR: 'it returns false'. Refute it at one input. -/
def fnExactLiveFindWrong : ChangeSpec := { name := "fnExactLiveFind", fn := fun _ => fun
  | [d1, d2, d3] => { results := [.lit (.bool false)], args := [d1, d2, d3] }
  | _ => none }
def FnExactLiveFindWrongFalsely : Prop := fnExactLiveFindRow.holds Try.pinned (OpenSpec.ofChange fnExactLiveFindWrong)

/-- 'laws.FnExactRoom': WHATEVER THE INPUT: true; the input reads as it did. -/
def fnExactRoomSpec : ChangeSpec := { name := "fnExactRoom", fn := fun _ => fun
  | [d1, d2] => { results := [.lit (.bool true)], args := [d1, d2] }
  | _ => none }
def fnExactRoomRow : OpenClaim := { program := "ytgccnoknhffhjaa", sum := "0438e352b29abad871000bf1a39de69680a0e7b62ab15e5d651796a7d49e5ae1", func := "loop.example/g00709/laws.FnExactRoom", spec := "fnExactRoom", apart := false }
def FnExactRoomSaid : Prop := fnExactRoomRow.holds Try.pinned (OpenSpec.ofChange fnExactRoomSpec)

/-- ITS FALSE NEIGHBOUR: 'it returns false'. Refute it at one input. -/
def fnExactRoomWrong : ChangeSpec := { name := "fnExactRoom", fn := fun _ => fun
  | [d1, d2] => { results := [.lit (.bool false)], args := [d1, d2] }
  | _ => none }
def FnExactRoomWrongFalsely : Prop := fnExactRoomRow.holds Try.pinned (OpenSpec.ofChange fnExactRoomWrong)

/-- 'laws.FnExactLiveFree': WHATEVER THE INPUT: true; the input reads as it did. -/
def fnExactLiveFreeSpec : ChangeSpec := { name := "fnExactLiveFree", fn := fun _ => fun
  | [d1, d2] => { results := [.lit (.bool true)], args := [d1, d2] }
  | _ => none }
def fnExactLiveFreeRow : OpenClaim := { program := "ytgccnoknhffhjaa", sum := "0438e352b29abad871000bf1a39de69680a0e7b62ab15e5d651796a7d49e5ae1", func := "loop.example/g00709/laws.FnExactLiveFree", spec := "fnExactLiveFree", apart := false }
def FnExactLiveFreeSaid : Prop := fnExactLiveFreeRow.holds Try.pinned (OpenSpec.ofChange fnExactLiveFreeSpec)

/-- ITS FALSE NEIGHBOUR: 'it returns false'. Refute it at one input. -/
def fnExactLiveFreeWrong : ChangeSpec := { name := "fnExactLiveFree", fn := fun _ => fun
  | [d1, d2] => { results := [.lit (.bool false)], args := [d1, d2] }
  | _ => none }
def FnExactLiveFreeWrongFalsely : Prop := fnExactLiveFreeRow.holds Try.pinned (OpenSpec.ofChange fnExactLiveFreeWrong)

/-- 'laws.FnExactWarpNew': WHATEVER THE INPUT: true; the input reads as it did. -/
def fnExactWarpNewSpec : ChangeSpec := { name := "fnExactWarpNew", fn := fun _ => fun
  | [] => { results := [.lit (.bool true)], args := [] }
  | _ => none }
def fnExactWarpNewRow : OpenClaim := { program := "ytgccnoknhffhjaa", sum := "0438e352b29abad871000bf1a39de69680a0e7b62ab15e5d651796a7d49e5ae1", func := "loop.example/g00709/laws.FnExactWarpNew", spec := "fnExactWarpNew", apart := false }
def FnExactWarpNewSaid : Prop := fnExactWarpNewRow.holds Try.pinned (OpenSpec.ofChange fnExactWarpNewSpec)

/-- ITS FALSE NEIGHBOUR: 'it returns false'. Refute it at one input. -/
def fnExactWarpNewWrong : ChangeSpec := { name := "fnExactWarpNew", fn := fun _ => fun
  | [] => { results := [.lit (.bool false)], args := [] }
  | _ => none }
def FnExactWarpNewWrongFalsely : Prop := fnExactWarpNewRow.holds Try.pinned (OpenSpec.ofChange fnExactWarpNewWrong)

/-- 'laws.FnExactAnswers': WHATEVER THE INPUT: true; the input reads as it did. -/
def fnExactAnswersSpec : ChangeSpec := { name := "fnExactAnswers", fn := fun _ => fun
  | [d1, d2, d3] => { results := [.lit (.bool true)], args := [d1, d2, d3] }
  | _ => none }
def fnExactAnswersRow : OpenClaim := { program := "ytgccnoknhffhjaa", sum := "0438e352b29abad871000bf1a39de69680a0e7b62ab15e5d651796a7d49e5ae1", func := "loop.example/g00709/laws.FnExactAnswers", spec := "fnExactAnswers", apart := false }
def FnExactAnswersSaid : Prop := fnExactAnswersRow.holds Try.pinned (OpenSpec.ofChange fnExactAnswersSpec)

/-- ITS FALSE NEIGHBOUR: 'it returns false'. Refute it at one input. -/
def fnExactAnswersWrong : ChangeSpec := { name := "fnExactAnswers", fn := fun _ => fun
  | [d1, d2, d3] => { results := [.lit (.bool false)], args := [d1, d2, d3] }
  | _ => none }
def FnExactAnswersWrongFalsely : Prop := fnExactAnswersRow.holds Try.pinned (OpenSpec.ofChange fnExactAnswersWrong)

/-- 'laws.FnExactLiveCut': WHATEVER THE INPUT: true; the input reads as it did. -/
def fnExactLiveCutSpec : ChangeSpec := { name := "fnExactLiveCut", fn := fun _ => fun
  | [d1, d2, d3] => { results := [.lit (.bool true)], args := [d1, d2, d3] }
  | _ => none }
def fnExactLiveCutRow : OpenClaim := { program := "ytgccnoknhffhjaa", sum := "0438e352b29abad871000bf1a39de69680a0e7b62ab15e5d651796a7d49e5ae1", func := "loop.example/g00709/laws.FnExactLiveCut", spec := "fnExactLiveCut", unfollowed := true, recurses := true, apart := false }
def FnExactLiveCutSaid : Prop := fnExactLiveCutRow.holds Try.pinned (OpenSpec.ofChange fnExactLiveCutSpec)

/-- ITS FALSE NEIGHBOUR: 'it returns false'. Refute it at one input. -/
def fnExactLiveCutWrong : ChangeSpec := { name := "fnExactLiveCut", fn := fun _ => fun
  | [d1, d2, d3] => { results := [.lit (.bool false)], args := [d1, d2, d3] }
  | _ => none }
def FnExactLiveCutWrongFalsely : Prop := fnExactLiveCutRow.holds Try.pinned (OpenSpec.ofChange fnExactLiveCutWrong)

/-- 'laws.FnExactEventOk': WHATEVER THE INPUT: true; the input reads as it did. -/
def fnExactEventOkSpec : ChangeSpec := { name := "fnExactEventOk", fn := fun _ => fun
  | [d] => { results := [.lit (.bool true)], args := [d] }
  | _ => none }
def fnExactEventOkRow : OpenClaim := { program := "ytgccnoknhffhjaa", sum := "0438e352b29abad871000bf1a39de69680a0e7b62ab15e5d651796a7d49e5ae1", func := "loop.example/g00709/laws.FnExactEventOk", spec := "fnExactEventOk", unfollowed := true, recurses := true, apart := false }
def FnExactEventOkSaid : Prop := fnExactEventOkRow.holds Try.pinned (OpenSpec.ofChange fnExactEventOkSpec)

/-- ITS FALSE NEIGHBOUR: 'it returns false'. Refute it at one input. -/
def fnExactEventOkWrong : ChangeSpec := { name := "fnExactEventOk", fn := fun _ => fun
  | [d] => { results := [.lit (.bool false)], args := [d] }
  | _ => none }
def FnExactEventOkWrongFalsely : Prop := fnExactEventOkRow.holds Try.pinned (OpenSpec.ofChange fnExactEventOkWrong)

/-- 'laws.FnExactRelease': WHATEVER THE INPUT: true; the input reads as it did. -/
def fnExactReleaseSpec : ChangeSpec := { name := "fnExactRelease", fn := fun _ => fun
  | [d1, d2] => { results := [.lit (.bool true)], args := [d1, d2] }
  | _ => none }
def fnExactReleaseRow : OpenClaim := { program := "ytgccnoknhffhjaa", sum := "0438e352b29abad871000bf1a39de69680a0e7b62ab15e5d651796a7d49e5ae1", func := "loop.example/g00709/laws.FnExactRelease", spec := "fnExactRelease", apart := false }
def FnExactReleaseSaid : Prop := fnExactReleaseRow.holds Try.pinned (OpenSpec.ofChange fnExactReleaseSpec)

/-- ITS FALSE NEIGHBOUR: 'it returns false'. Refute it at one input. -/
def fnExactReleaseWrong : ChangeSpec := { name := "fnExactRelease", fn := fun _ => fun
  | [d1, d2] => { results := [.lit (.bool false)], args := [d1, d2] }
  | _ => none }
def FnExactReleaseWrongFalsely : Prop := fnExactReleaseRow.holds Try.pinned (OpenSpec.ofChange fnExactReleaseWrong)

/-- 'laws.FnHead': WHATEVER THE INPUT: true; the input reads as it did. -/
def fnHeadSpec : ChangeSpec := { name := "fnHead", fn := fun _ => fun
  | [d] => { results := [.lit (.bool true)], args := [d] }
  | _ => none }
def fnHeadRow : OpenClaim := { program := "ytgccnoknhffhjaa", sum := "0438e352b29abad871000bf1a39de69680a0e7b62ab15e5d651796a7d49e5ae1", func := "loop.example/g00709/laws.FnHead", spec := "fnHead", apart := false }
def FnHeadSaid : Prop := fnHeadRow.holds Try.pinned (OpenSpec.ofChange fnHeadSpec)

/-- ITS FALSE NEIGHBOUR: 'it returns false'. Refute it at one input. -/
def fnHeadWrong : ChangeSpec := { name := "fnHead", fn := fun _ => fun
  | [d] => { results := [.lit (.bool false)], args := [d] }
  | _ => none }
def FnHeadWrongFalsely : Prop := fnHeadRow.holds Try.pinned (OpenSpec.ofChange fnHeadWrong)

/-- 'laws.FnExactAuditSum': WHATEVER THE INPUT: true; the input reads as it did. -/
def fnExactAuditSumSpec : ChangeSpec := { name := "fnExactAuditSum", fn := fun _ => fun
  | [d] => { results := [.lit (.bool true)], args := [d] }
  | _ => none }
def fnExactAuditSumRow : OpenClaim := { program := "ytgccnoknhffhjaa", sum := "0438e352b29abad871000bf1a39de69680a0e7b62ab15e5d651796a7d49e5ae1", func := "loop.example/g00709/laws.FnExactAuditSum", spec := "fnExactAuditSum", unfollowed := true, recurses := true, apart := false }
def FnExactAuditSumSaid : Prop := fnExactAuditSumRow.holds Try.pinned (OpenSpec.ofChange fnExactAuditSumSpec)

/-- ITS FALSE NEIGHBOUR: 'it returns false'. Refute it at one input. -/
def fnExactAuditSumWrong : ChangeSpec := { name := "fnExactAuditSum", fn := fun _ => fun
  | [d] => { results := [.lit (.bool false)], args := [d] }
  | _ => none }
def FnExactAuditSumWrongFalsely : Prop := fnExactAuditSumRow.holds Try.pinned (OpenSpec.ofChange fnExactAuditSumWrong)

/-- 'laws.FnExactLiveAdd': WHATEVER THE INPUT: true; the input reads as it did. -/
def fnExactLiveAddSpec : ChangeSpec := { name := "fnExactLiveAdd", fn := fun _ => fun
  | [d1, d2, d3] => { results := [.lit (.bool true)], args := [d1, d2, d3] }
  | _ => none }
def fnExactLiveAddRow : OpenClaim := { program := "ytgccnoknhffhjaa", sum := "0438e352b29abad871000bf1a39de69680a0e7b62ab15e5d651796a7d49e5ae1", func := "loop.example/g00709/laws.FnExactLiveAdd", spec := "fnExactLiveAdd", inPlace := ["slices.overlaps[loop.example/g00709/impl.Block]"], apart := false }
def FnExactLiveAddSaid : Prop := fnExactLiveAddRow.holds Try.pinned (OpenSpec.ofChange fnExactLiveAddSpec)

/-- ITS FALSE NEIGHBOUR: 'it returns false'. Refute it at one input. -/
def fnExactLiveAddWrong : ChangeSpec := { name := "fnExactLiveAdd", fn := fun _ => fun
  | [d1, d2, d3] => { results := [.lit (.bool false)], args := [d1, d2, d3] }
  | _ => none }
def FnExactLiveAddWrongFalsely : Prop := fnExactLiveAddRow.holds Try.pinned (OpenSpec.ofChange fnExactLiveAddWrong)

/- THE SECOND FORM. 'bulk': how many values and letters a reading holds, each counted each time it is reached (what is shared counts as often as it is met; a slice's spare places count too). A statement '..UptoSaid' is the law's where the arguments, and the package variables that the reading takes, are together of bulk at most 1048576: NARROWER than '..Said'. Prove '..Said' where nothing that the law and all that it calls make is longer than what came in: it says more and counts as full. Else prove '..UptoSaid'. A law counts once. -/
mutual
def uptoBulk {H : Type} : DataW H → Nat
  | .lit (.string bytes) => bytes.length + 1
  | .lit _ => 1
  | .nil => 1
  | .ptr d => uptoBulk d + 1
  | .slice elems spare => uptoBulkAll elems + uptoBulkAll spare + 1
  | .agg parts => uptoBulkAll parts + 1
  | .iface _ d => uptoBulk d + 1
  | .map entries => uptoBulkEntries entries + 1
  | .held _ => 1
def uptoBulkAll {H : Type} : List (DataW H) → Nat
  | [] => 0
  | d :: r => uptoBulk d + uptoBulkAll r
def uptoBulkEntries {H : Type} : List (Lit × DataW H) → Nat
  | [] => 0
  | x :: r => uptoBulkEntry x + uptoBulkEntries r
def uptoBulkEntry {H : Type} : Lit × DataW H → Nat
  | (.string bytes, d) => bytes.length + uptoBulk d + 1
  | (_, d) => uptoBulk d + 1
 end
def uptoSmall : (H : Type) → List (DataW H) → Bool := fun _ ds => decide (uptoBulkAll ds ≤ 1048576)
def OpenSpec.upto (s : _root_.Go.ChangeSpec) : _root_.Go.OpenSpec := { _root_.Go.OpenSpec.ofChange s with cond := some uptoSmall }

/-- 'laws.FnExactLiveSum', WHERE WHAT IT READS IS OF BULK AT MOST 1048576: true; the input reads as it did. -/
def fnExactLiveSumUptoRow : OpenClaim := { program := "ytgccnoknhffhjaa", sum := "0438e352b29abad871000bf1a39de69680a0e7b62ab15e5d651796a7d49e5ae1", func := "loop.example/g00709/laws.FnExactLiveSum", spec := "fnExactLiveSum", apart := false, narrowed := true }
def FnExactLiveSumUptoSaid : Prop := fnExactLiveSumUptoRow.holds Try.pinned (OpenSpec.upto fnExactLiveSumSpec)

/-- 'laws.FnExactLiveFind', WHERE WHAT IT READS IS OF BULK AT MOST 1048576: true; the input reads as it did. -/
def fnExactLiveFindUptoRow : OpenClaim := { program := "ytgccnoknhffhjaa", sum := "0438e352b29abad871000bf1a39de69680a0e7b62ab15e5d651796a7d49e5ae1", func := "loop.example/g00709/laws.FnExactLiveFind", spec := "fnExactLiveFind", unfollowed := true, recurses := true, apart := false, narrowed := true }
def FnExactLiveFindUptoSaid : Prop := fnExactLiveFindUptoRow.holds Try.pinned (OpenSpec.upto fnExactLiveFindSpec)

/-- 'laws.FnExactRoom', WHERE WHAT IT READS IS OF BULK AT MOST 1048576: true; the input reads as it did. -/
def fnExactRoomUptoRow : OpenClaim := { program := "ytgccnoknhffhjaa", sum := "0438e352b29abad871000bf1a39de69680a0e7b62ab15e5d651796a7d49e5ae1", func := "loop.example/g00709/laws.FnExactRoom", spec := "fnExactRoom", apart := false, narrowed := true }
def FnExactRoomUptoSaid : Prop := fnExactRoomUptoRow.holds Try.pinned (OpenSpec.upto fnExactRoomSpec)

/-- 'laws.FnExactLiveFree', WHERE WHAT IT READS IS OF BULK AT MOST 1048576: true; the input reads as it did. -/
def fnExactLiveFreeUptoRow : OpenClaim := { program := "ytgccnoknhffhjaa", sum := "0438e352b29abad871000bf1a39de69680a0e7b62ab15e5d651796a7d49e5ae1", func := "loop.example/g00709/laws.FnExactLiveFree", spec := "fnExactLiveFree", apart := false, narrowed := true }
def FnExactLiveFreeUptoSaid : Prop := fnExactLiveFreeUptoRow.holds Try.pinned (OpenSpec.upto fnExactLiveFreeSpec)

/-- 'laws.FnExactWarpNew', WHERE WHAT IT READS IS OF BULK AT MOST 1048576: true; the input reads as it did. -/
def fnExactWarpNewUptoRow : OpenClaim := { program := "ytgccnoknhffhjaa", sum := "0438e352b29abad871000bf1a39de69680a0e7b62ab15e5d651796a7d49e5ae1", func := "loop.example/g00709/laws.FnExactWarpNew", spec := "fnExactWarpNew", apart := false, narrowed := true }
def FnExactWarpNewUptoSaid : Prop := fnExactWarpNewUptoRow.holds Try.pinned (OpenSpec.upto fnExactWarpNewSpec)

/-- 'laws.FnExactAnswers', WHERE WHAT IT READS IS OF BULK AT MOST 1048576: true; the input reads as it did. -/
def fnExactAnswersUptoRow : OpenClaim := { program := "ytgccnoknhffhjaa", sum := "0438e352b29abad871000bf1a39de69680a0e7b62ab15e5d651796a7d49e5ae1", func := "loop.example/g00709/laws.FnExactAnswers", spec := "fnExactAnswers", apart := false, narrowed := true }
def FnExactAnswersUptoSaid : Prop := fnExactAnswersUptoRow.holds Try.pinned (OpenSpec.upto fnExactAnswersSpec)

/-- 'laws.FnExactLiveCut', WHERE WHAT IT READS IS OF BULK AT MOST 1048576: true; the input reads as it did. -/
def fnExactLiveCutUptoRow : OpenClaim := { program := "ytgccnoknhffhjaa", sum := "0438e352b29abad871000bf1a39de69680a0e7b62ab15e5d651796a7d49e5ae1", func := "loop.example/g00709/laws.FnExactLiveCut", spec := "fnExactLiveCut", unfollowed := true, recurses := true, apart := false, narrowed := true }
def FnExactLiveCutUptoSaid : Prop := fnExactLiveCutUptoRow.holds Try.pinned (OpenSpec.upto fnExactLiveCutSpec)

/-- 'laws.FnExactEventOk', WHERE WHAT IT READS IS OF BULK AT MOST 1048576: true; the input reads as it did. -/
def fnExactEventOkUptoRow : OpenClaim := { program := "ytgccnoknhffhjaa", sum := "0438e352b29abad871000bf1a39de69680a0e7b62ab15e5d651796a7d49e5ae1", func := "loop.example/g00709/laws.FnExactEventOk", spec := "fnExactEventOk", unfollowed := true, recurses := true, apart := false, narrowed := true }
def FnExactEventOkUptoSaid : Prop := fnExactEventOkUptoRow.holds Try.pinned (OpenSpec.upto fnExactEventOkSpec)

/-- 'laws.FnExactRelease', WHERE WHAT IT READS IS OF BULK AT MOST 1048576: true; the input reads as it did. -/
def fnExactReleaseUptoRow : OpenClaim := { program := "ytgccnoknhffhjaa", sum := "0438e352b29abad871000bf1a39de69680a0e7b62ab15e5d651796a7d49e5ae1", func := "loop.example/g00709/laws.FnExactRelease", spec := "fnExactRelease", apart := false, narrowed := true }
def FnExactReleaseUptoSaid : Prop := fnExactReleaseUptoRow.holds Try.pinned (OpenSpec.upto fnExactReleaseSpec)

/-- 'laws.FnHead', WHERE WHAT IT READS IS OF BULK AT MOST 1048576: true; the input reads as it did. -/
def fnHeadUptoRow : OpenClaim := { program := "ytgccnoknhffhjaa", sum := "0438e352b29abad871000bf1a39de69680a0e7b62ab15e5d651796a7d49e5ae1", func := "loop.example/g00709/laws.FnHead", spec := "fnHead", apart := false, narrowed := true }
def FnHeadUptoSaid : Prop := fnHeadUptoRow.holds Try.pinned (OpenSpec.upto fnHeadSpec)

/-- 'laws.FnExactAuditSum', WHERE WHAT IT READS IS OF BULK AT MOST 1048576: true; the input reads as it did. -/
def fnExactAuditSumUptoRow : OpenClaim := { program := "ytgccnoknhffhjaa", sum := "0438e352b29abad871000bf1a39de69680a0e7b62ab15e5d651796a7d49e5ae1", func := "loop.example/g00709/laws.FnExactAuditSum", spec := "fnExactAuditSum", unfollowed := true, recurses := true, apart := false, narrowed := true }
def FnExactAuditSumUptoSaid : Prop := fnExactAuditSumUptoRow.holds Try.pinned (OpenSpec.upto fnExactAuditSumSpec)

/-- 'laws.FnExactLiveAdd', WHERE WHAT IT READS IS OF BULK AT MOST 1048576: true; the input reads as it did. -/
def fnExactLiveAddUptoRow : OpenClaim := { program := "ytgccnoknhffhjaa", sum := "0438e352b29abad871000bf1a39de69680a0e7b62ab15e5d651796a7d49e5ae1", func := "loop.example/g00709/laws.FnExactLiveAdd", spec := "fnExactLiveAdd", inPlace := ["slices.overlaps[loop.example/g00709/impl.Block]"], apart := false, narrowed := true }
def FnExactLiveAddUptoSaid : Prop := fnExactLiveAddUptoRow.holds Try.pinned (OpenSpec.upto fnExactLiveAddSpec)

end Rows
end Go.Proofs.Ytgccnoknhffhjaa
