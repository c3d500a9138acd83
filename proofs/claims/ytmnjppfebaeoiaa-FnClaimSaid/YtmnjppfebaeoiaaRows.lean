/-
  No cell of these rows narrows 'for every input' (looked for: loops, veiled, ifaces, maps, wideKeys, modest, calm, conditions, laid).
  DERIVED. THE GIVEN ROWS OF THIS SEAT. 11 by the template 'for every input the law returns true; each argument reads behind the call as it read before'; 0 by the template 'total and deterministic' (their statements: YtmnjppfebaeoiaaTotals.lean).
  GIVEN WITH THE SEED: the statements are not yours to turn. If you find one false, say at which input.
  Laid BY PROGRAM, IN A SANDBOX (cutbox-rows.mjs): the forced cells as the released guide's own fill.sh prints them over the translation 9438919b5e724c5c… (all of the seat's roots in one cut). By AI agents, Wed Nov 11 2026. No macro, syntax, notation, axiom, sorry.
-/
import Derived.Test.YtmnjppfebaeoiaaChecked
import GoSem.Claim
import GoSem.ClaimJoined
import GoSem.ClaimMapViews
import Derived.JoinedTies
import Derived.KernelRfl
namespace Go.Proofs.Ytmnjppfebaeoiaa
/- THE CELL 'sum', in the pinned program and in every row, IS THE sha256 OF THE DUMP (.gsa) THAT YtmnjppfebaeoiaaProg.lean LOADS. Nothing in Lean hashes anything: it is a label: what it is worth is what the hold of that sum in a sandbox is worth. -/
noncomputable def Try.pinned : Pinned := { name := "ytmnjppfebaeoiaa", sum := "9438919b5e724c5c05f9f484f7a116f8af99ac9b6ffc5845ce854050528f468a", checked := Try.checked }
namespace Rows
def none {H : Type} : Left H := { results := [], args := [] }

/-- 'laws.FnExactWarpNew': WHATEVER THE INPUT: true; the input reads as it did. -/
def fnExactWarpNewSpec : ChangeSpec := { name := "fnExactWarpNew", fn := fun _ => fun
  | [] => { results := [.lit (.bool true)], args := [] }
  | _ => none }
def fnExactWarpNewRow : OpenClaim := { program := "ytmnjppfebaeoiaa", sum := "9438919b5e724c5c05f9f484f7a116f8af99ac9b6ffc5845ce854050528f468a", func := "loop.example/g00709/laws.FnExactWarpNew", spec := "fnExactWarpNew", apart := false }
def FnExactWarpNewSaid : Prop := fnExactWarpNewRow.holds Try.pinned (OpenSpec.ofChange fnExactWarpNewSpec)

/-- ITS FALSE NEIGHBOUR: 'it returns false'. Refute it at one input. -/
def fnExactWarpNewWrong : ChangeSpec := { name := "fnExactWarpNew", fn := fun _ => fun
  | [] => { results := [.lit (.bool false)], args := [] }
  | _ => none }
def FnExactWarpNewWrongFalsely : Prop := fnExactWarpNewRow.holds Try.pinned (OpenSpec.ofChange fnExactWarpNewWrong)

/-- 'laws.FnExactLiveCut': WHATEVER THE INPUT: true; the input reads as it did. -/
def fnExactLiveCutSpec : ChangeSpec := { name := "fnExactLiveCut", fn := fun _ => fun
  | [d1, d2, d3] => { results := [.lit (.bool true)], args := [d1, d2, d3] }
  | _ => none }
def fnExactLiveCutRow : OpenClaim := { program := "ytmnjppfebaeoiaa", sum := "9438919b5e724c5c05f9f484f7a116f8af99ac9b6ffc5845ce854050528f468a", func := "loop.example/g00709/laws.FnExactLiveCut", spec := "fnExactLiveCut", unfollowed := true, recurses := true, apart := false }
def FnExactLiveCutSaid : Prop := fnExactLiveCutRow.holds Try.pinned (OpenSpec.ofChange fnExactLiveCutSpec)

/-- ITS FALSE NEIGHBOUR: 'it returns false'. Refute it at one input. -/
def fnExactLiveCutWrong : ChangeSpec := { name := "fnExactLiveCut", fn := fun _ => fun
  | [d1, d2, d3] => { results := [.lit (.bool false)], args := [d1, d2, d3] }
  | _ => none }
def FnExactLiveCutWrongFalsely : Prop := fnExactLiveCutRow.holds Try.pinned (OpenSpec.ofChange fnExactLiveCutWrong)

/-- 'laws.FnExactLiveAdd': WHATEVER THE INPUT: true; the input reads as it did. -/
def fnExactLiveAddSpec : ChangeSpec := { name := "fnExactLiveAdd", fn := fun _ => fun
  | [d1, d2, d3] => { results := [.lit (.bool true)], args := [d1, d2, d3] }
  | _ => none }
def fnExactLiveAddRow : OpenClaim := { program := "ytmnjppfebaeoiaa", sum := "9438919b5e724c5c05f9f484f7a116f8af99ac9b6ffc5845ce854050528f468a", func := "loop.example/g00709/laws.FnExactLiveAdd", spec := "fnExactLiveAdd", inPlace := ["slices.overlaps[loop.example/g00709/impl.Block]"], apart := false }
def FnExactLiveAddSaid : Prop := fnExactLiveAddRow.holds Try.pinned (OpenSpec.ofChange fnExactLiveAddSpec)

/-- ITS FALSE NEIGHBOUR: 'it returns false'. Refute it at one input. -/
def fnExactLiveAddWrong : ChangeSpec := { name := "fnExactLiveAdd", fn := fun _ => fun
  | [d1, d2, d3] => { results := [.lit (.bool false)], args := [d1, d2, d3] }
  | _ => none }
def FnExactLiveAddWrongFalsely : Prop := fnExactLiveAddRow.holds Try.pinned (OpenSpec.ofChange fnExactLiveAddWrong)

/-- 'laws.FnExactClaim': WHATEVER THE INPUT: true; the input reads as it did. -/
def fnExactClaimSpec : ChangeSpec := { name := "fnExactClaim", fn := fun _ => fun
  | [d1, d2, d3] => { results := [.lit (.bool true)], args := [d1, d2, d3] }
  | _ => none }
def fnExactClaimRow : OpenClaim := { program := "ytmnjppfebaeoiaa", sum := "9438919b5e724c5c05f9f484f7a116f8af99ac9b6ffc5845ce854050528f468a", func := "loop.example/g00709/laws.FnExactClaim", spec := "fnExactClaim", apart := false }
def FnExactClaimSaid : Prop := fnExactClaimRow.holds Try.pinned (OpenSpec.ofChange fnExactClaimSpec)

/-- ITS FALSE NEIGHBOUR: 'it returns false'. Refute it at one input. -/
def fnExactClaimWrong : ChangeSpec := { name := "fnExactClaim", fn := fun _ => fun
  | [d1, d2, d3] => { results := [.lit (.bool false)], args := [d1, d2, d3] }
  | _ => none }
def FnExactClaimWrongFalsely : Prop := fnExactClaimRow.holds Try.pinned (OpenSpec.ofChange fnExactClaimWrong)

/-- 'laws.FnExactAudit': WHATEVER THE INPUT: true; the input reads as it did. -/
def fnExactAuditSpec : ChangeSpec := { name := "fnExactAudit", fn := fun _ => fun
  | [d] => { results := [.lit (.bool true)], args := [d] }
  | _ => none }
def fnExactAuditRow : OpenClaim := { program := "ytmnjppfebaeoiaa", sum := "9438919b5e724c5c05f9f484f7a116f8af99ac9b6ffc5845ce854050528f468a", func := "loop.example/g00709/laws.FnExactAudit", spec := "fnExactAudit", unfollowed := true, recurses := true, apart := false }
def FnExactAuditSaid : Prop := fnExactAuditRow.holds Try.pinned (OpenSpec.ofChange fnExactAuditSpec)

/-- ITS FALSE NEIGHBOUR: 'it returns false'. Refute it at one input. -/
def fnExactAuditWrong : ChangeSpec := { name := "fnExactAudit", fn := fun _ => fun
  | [d] => { results := [.lit (.bool false)], args := [d] }
  | _ => none }
def FnExactAuditWrongFalsely : Prop := fnExactAuditRow.holds Try.pinned (OpenSpec.ofChange fnExactAuditWrong)

/-- 'laws.FnExactMachNew': WHATEVER THE INPUT: true; the input reads as it did. -/
def fnExactMachNewSpec : ChangeSpec := { name := "fnExactMachNew", fn := fun _ => fun
  | [d1, d2] => { results := [.lit (.bool true)], args := [d1, d2] }
  | _ => none }
def fnExactMachNewRow : OpenClaim := { program := "ytmnjppfebaeoiaa", sum := "9438919b5e724c5c05f9f484f7a116f8af99ac9b6ffc5845ce854050528f468a", func := "loop.example/g00709/laws.FnExactMachNew", spec := "fnExactMachNew", apart := false }
def FnExactMachNewSaid : Prop := fnExactMachNewRow.holds Try.pinned (OpenSpec.ofChange fnExactMachNewSpec)

/-- ITS FALSE NEIGHBOUR: 'it returns false'. Refute it at one input. -/
def fnExactMachNewWrong : ChangeSpec := { name := "fnExactMachNew", fn := fun _ => fun
  | [d1, d2] => { results := [.lit (.bool false)], args := [d1, d2] }
  | _ => none }
def FnExactMachNewWrongFalsely : Prop := fnExactMachNewRow.holds Try.pinned (OpenSpec.ofChange fnExactMachNewWrong)

/-- 'laws.FnRelease': WHATEVER THE INPUT: true; the input reads as it did. -/
def fnReleaseSpec : ChangeSpec := { name := "fnRelease", fn := fun _ => fun
  | [d] => { results := [.lit (.bool true)], args := [d] }
  | _ => none }
def fnReleaseRow : OpenClaim := { program := "ytmnjppfebaeoiaa", sum := "9438919b5e724c5c05f9f484f7a116f8af99ac9b6ffc5845ce854050528f468a", func := "loop.example/g00709/laws.FnRelease", spec := "fnRelease", apart := false }
def FnReleaseSaid : Prop := fnReleaseRow.holds Try.pinned (OpenSpec.ofChange fnReleaseSpec)

/-- ITS FALSE NEIGHBOUR: 'it returns false'. Refute it at one input. -/
def fnReleaseWrong : ChangeSpec := { name := "fnRelease", fn := fun _ => fun
  | [d] => { results := [.lit (.bool false)], args := [d] }
  | _ => none }
def FnReleaseWrongFalsely : Prop := fnReleaseRow.holds Try.pinned (OpenSpec.ofChange fnReleaseWrong)

/-- 'laws.FnLive': WHATEVER THE INPUT: true; the input reads as it did. -/
def fnLiveSpec : ChangeSpec := { name := "fnLive", fn := fun _ => fun
  | [d] => { results := [.lit (.bool true)], args := [d] }
  | _ => none }
def fnLiveRow : OpenClaim := { program := "ytmnjppfebaeoiaa", sum := "9438919b5e724c5c05f9f484f7a116f8af99ac9b6ffc5845ce854050528f468a", func := "loop.example/g00709/laws.FnLive", spec := "fnLive", inPlace := ["slices.overlaps[loop.example/g00709/impl.Block]"], unfollowed := true, recurses := true, apart := false }
def FnLiveSaid : Prop := fnLiveRow.holds Try.pinned (OpenSpec.ofChange fnLiveSpec)

/-- ITS FALSE NEIGHBOUR: 'it returns false'. Refute it at one input. -/
def fnLiveWrong : ChangeSpec := { name := "fnLive", fn := fun _ => fun
  | [d] => { results := [.lit (.bool false)], args := [d] }
  | _ => none }
def FnLiveWrongFalsely : Prop := fnLiveRow.holds Try.pinned (OpenSpec.ofChange fnLiveWrong)

/-- 'laws.FnClaim': WHATEVER THE INPUT: true; the input reads as it did. -/
def fnClaimSpec : ChangeSpec := { name := "fnClaim", fn := fun _ => fun
  | [d] => { results := [.lit (.bool true)], args := [d] }
  | _ => none }
def fnClaimRow : OpenClaim := { program := "ytmnjppfebaeoiaa", sum := "9438919b5e724c5c05f9f484f7a116f8af99ac9b6ffc5845ce854050528f468a", func := "loop.example/g00709/laws.FnClaim", spec := "fnClaim", apart := false }
def FnClaimSaid : Prop := fnClaimRow.holds Try.pinned (OpenSpec.ofChange fnClaimSpec)

/-- ITS FALSE NEIGHBOUR: 'it returns false'. Refute it at one input. -/
def fnClaimWrong : ChangeSpec := { name := "fnClaim", fn := fun _ => fun
  | [d] => { results := [.lit (.bool false)], args := [d] }
  | _ => none }
def FnClaimWrongFalsely : Prop := fnClaimRow.holds Try.pinned (OpenSpec.ofChange fnClaimWrong)

/-- 'laws.FnExactFactDo': WHATEVER THE INPUT: true; the input reads as it did. -/
def fnExactFactDoSpec : ChangeSpec := { name := "fnExactFactDo", fn := fun _ => fun
  | [d1, d2] => { results := [.lit (.bool true)], args := [d1, d2] }
  | _ => none }
def fnExactFactDoRow : OpenClaim := { program := "ytmnjppfebaeoiaa", sum := "9438919b5e724c5c05f9f484f7a116f8af99ac9b6ffc5845ce854050528f468a", func := "loop.example/g00709/laws.FnExactFactDo", spec := "fnExactFactDo", inPlace := ["slices.overlaps[loop.example/g00709/impl.Block]"], unfollowed := true, recurses := true, apart := false }
def FnExactFactDoSaid : Prop := fnExactFactDoRow.holds Try.pinned (OpenSpec.ofChange fnExactFactDoSpec)

/-- ITS FALSE NEIGHBOUR: 'it returns false'. Refute it at one input. -/
def fnExactFactDoWrong : ChangeSpec := { name := "fnExactFactDo", fn := fun _ => fun
  | [d1, d2] => { results := [.lit (.bool false)], args := [d1, d2] }
  | _ => none }
def FnExactFactDoWrongFalsely : Prop := fnExactFactDoRow.holds Try.pinned (OpenSpec.ofChange fnExactFactDoWrong)

/-- 'laws.FnExactFactsRun': WHATEVER THE INPUT: true; the input reads as it did. -/
def fnExactFactsRunSpec : ChangeSpec := { name := "fnExactFactsRun", fn := fun _ => fun
  | [d] => { results := [.lit (.bool true)], args := [d] }
  | _ => none }
def fnExactFactsRunRow : OpenClaim := { program := "ytmnjppfebaeoiaa", sum := "9438919b5e724c5c05f9f484f7a116f8af99ac9b6ffc5845ce854050528f468a", func := "loop.example/g00709/laws.FnExactFactsRun", spec := "fnExactFactsRun", inPlace := ["slices.overlaps[loop.example/g00709/impl.Block]"], unfollowed := true, recurses := true, apart := false }
def FnExactFactsRunSaid : Prop := fnExactFactsRunRow.holds Try.pinned (OpenSpec.ofChange fnExactFactsRunSpec)

/-- ITS FALSE NEIGHBOUR: 'it returns false'. Refute it at one input. -/
def fnExactFactsRunWrong : ChangeSpec := { name := "fnExactFactsRun", fn := fun _ => fun
  | [d] => { results := [.lit (.bool false)], args := [d] }
  | _ => none }
def FnExactFactsRunWrongFalsely : Prop := fnExactFactsRunRow.holds Try.pinned (OpenSpec.ofChange fnExactFactsRunWrong)

/- THE SECOND FORM. 'bulk': how many values and letters a reading holds, each counted each time it is reached (what is shared counts as often as it is met; a slice's spare places count too). A statement '..UptoSaid' is the law's where the arguments, and the package variables that the reading takes, are together of bulk at most 1048576: NARROWER than '..Said'. Prove '..Said' where nothing that the law and all that it calls make is longer than what came in: it says more and counts as full. Else prove '..UptoSaid'. A law counts once. -/
mutual
def uptoBulk {H : Type} : DataW H → Nat
  | .lit (.string bytes) => bytes.length + 1
  | .lit _ => 1
  | .nil => 1
  | .ptr d => uptoBulk d + 1
  | .slice elems spare => uptoBulkAll elems + uptoBulkAll spare + 1
  | .agg parts => uptoBulkAll parts + 1
  | .iface _ d => uptoBulk d + 1
  | .map entries => uptoBulkEntries entries + 1
  | .held _ => 1
def uptoBulkAll {H : Type} : List (DataW H) → Nat
  | [] => 0
  | d :: r => uptoBulk d + uptoBulkAll r
def uptoBulkEntries {H : Type} : List (Lit × DataW H) → Nat
  | [] => 0
  | x :: r => uptoBulkEntry x + uptoBulkEntries r
def uptoBulkEntry {H : Type} : Lit × DataW H → Nat
  | (.string bytes, d) => bytes.length + uptoBulk d + 1
  | (_, d) => uptoBulk d + 1
 end
def uptoSmall : (H : Type) → List (DataW H) → Bool := fun _ ds => decide (uptoBulkAll ds ≤ 1048576)
def OpenSpec.upto (s : _root_.Go.ChangeSpec) : _root_.Go.OpenSpec := { _root_.Go.OpenSpec.ofChange s with cond := some uptoSmall }

/-- 'laws.FnExactWarpNew', WHERE WHAT IT READS IS OF BULK AT MOST 1048576: true; the input reads as it did. -/
def fnExactWarpNewUptoRow : OpenClaim := { program := "ytmnjppfebaeoiaa", sum := "9438919b5e724c5c05f9f484f7a116f8af99ac9b6ffc5845ce854050528f468a", func := "loop.example/g00709/laws.FnExactWarpNew", spec := "fnExactWarpNew", apart := false, narrowed := true }
def FnExactWarpNewUptoSaid : Prop := fnExactWarpNewUptoRow.holds Try.pinned (OpenSpec.upto fnExactWarpNewSpec)

/-- 'laws.FnExactLiveCut', WHERE WHAT IT READS IS OF BULK AT MOST 1048576: true; the input reads as it did. -/
def fnExactLiveCutUptoRow : OpenClaim := { program := "ytmnjppfebaeoiaa", sum := "9438919b5e724c5c05f9f484f7a116f8af99ac9b6ffc5845ce854050528f468a", func := "loop.example/g00709/laws.FnExactLiveCut", spec := "fnExactLiveCut", unfollowed := true, recurses := true, apart := false, narrowed := true }
def FnExactLiveCutUptoSaid : Prop := fnExactLiveCutUptoRow.holds Try.pinned (OpenSpec.upto fnExactLiveCutSpec)

/-- 'laws.FnExactLiveAdd', WHERE WHAT IT READS IS OF BULK AT MOST 1048576: true; the input reads as it did. -/
def fnExactLiveAddUptoRow : OpenClaim := { program := "ytmnjppfebaeoiaa", sum := "9438919b5e724c5c05f9f484f7a116f8af99ac9b6ffc5845ce854050528f468a", func := "loop.example/g00709/laws.FnExactLiveAdd", spec := "fnExactLiveAdd", inPlace := ["slices.overlaps[loop.example/g00709/impl.Block]"], apart := false, narrowed := true }
def FnExactLiveAddUptoSaid : Prop := fnExactLiveAddUptoRow.holds Try.pinned (OpenSpec.upto fnExactLiveAddSpec)

/-- 'laws.FnExactClaim', WHERE WHAT IT READS IS OF BULK AT MOST 1048576: true; the input reads as it did. -/
def fnExactClaimUptoRow : OpenClaim := { program := "ytmnjppfebaeoiaa", sum := "9438919b5e724c5c05f9f484f7a116f8af99ac9b6ffc5845ce854050528f468a", func := "loop.example/g00709/laws.FnExactClaim", spec := "fnExactClaim", apart := false, narrowed := true }
def FnExactClaimUptoSaid : Prop := fnExactClaimUptoRow.holds Try.pinned (OpenSpec.upto fnExactClaimSpec)

/-- 'laws.FnExactAudit', WHERE WHAT IT READS IS OF BULK AT MOST 1048576: true; the input reads as it did. -/
def fnExactAuditUptoRow : OpenClaim := { program := "ytmnjppfebaeoiaa", sum := "9438919b5e724c5c05f9f484f7a116f8af99ac9b6ffc5845ce854050528f468a", func := "loop.example/g00709/laws.FnExactAudit", spec := "fnExactAudit", unfollowed := true, recurses := true, apart := false, narrowed := true }
def FnExactAuditUptoSaid : Prop := fnExactAuditUptoRow.holds Try.pinned (OpenSpec.upto fnExactAuditSpec)

/-- 'laws.FnExactMachNew', WHERE WHAT IT READS IS OF BULK AT MOST 1048576: true; the input reads as it did. -/
def fnExactMachNewUptoRow : OpenClaim := { program := "ytmnjppfebaeoiaa", sum := "9438919b5e724c5c05f9f484f7a116f8af99ac9b6ffc5845ce854050528f468a", func := "loop.example/g00709/laws.FnExactMachNew", spec := "fnExactMachNew", apart := false, narrowed := true }
def FnExactMachNewUptoSaid : Prop := fnExactMachNewUptoRow.holds Try.pinned (OpenSpec.upto fnExactMachNewSpec)

/-- 'laws.FnRelease', WHERE WHAT IT READS IS OF BULK AT MOST 1048576: true; the input reads as it did. -/
def fnReleaseUptoRow : OpenClaim := { program := "ytmnjppfebaeoiaa", sum := "9438919b5e724c5c05f9f484f7a116f8af99ac9b6ffc5845ce854050528f468a", func := "loop.example/g00709/laws.FnRelease", spec := "fnRelease", apart := false, narrowed := true }
def FnReleaseUptoSaid : Prop := fnReleaseUptoRow.holds Try.pinned (OpenSpec.upto fnReleaseSpec)

/-- 'laws.FnLive', WHERE WHAT IT READS IS OF BULK AT MOST 1048576: true; the input reads as it did. -/
def fnLiveUptoRow : OpenClaim := { program := "ytmnjppfebaeoiaa", sum := "9438919b5e724c5c05f9f484f7a116f8af99ac9b6ffc5845ce854050528f468a", func := "loop.example/g00709/laws.FnLive", spec := "fnLive", inPlace := ["slices.overlaps[loop.example/g00709/impl.Block]"], unfollowed := true, recurses := true, apart := false, narrowed := true }
def FnLiveUptoSaid : Prop := fnLiveUptoRow.holds Try.pinned (OpenSpec.upto fnLiveSpec)

/-- 'laws.FnClaim', WHERE WHAT IT READS IS OF BULK AT MOST 1048576: true; the input reads as it did. -/
def fnClaimUptoRow : OpenClaim := { program := "ytmnjppfebaeoiaa", sum := "9438919b5e724c5c05f9f484f7a116f8af99ac9b6ffc5845ce854050528f468a", func := "loop.example/g00709/laws.FnClaim", spec := "fnClaim", apart := false, narrowed := true }
def FnClaimUptoSaid : Prop := fnClaimUptoRow.holds Try.pinned (OpenSpec.upto fnClaimSpec)

/-- 'laws.FnExactFactDo', WHERE WHAT IT READS IS OF BULK AT MOST 1048576: true; the input reads as it did. -/
def fnExactFactDoUptoRow : OpenClaim := { program := "ytmnjppfebaeoiaa", sum := "9438919b5e724c5c05f9f484f7a116f8af99ac9b6ffc5845ce854050528f468a", func := "loop.example/g00709/laws.FnExactFactDo", spec := "fnExactFactDo", inPlace := ["slices.overlaps[loop.example/g00709/impl.Block]"], unfollowed := true, recurses := true, apart := false, narrowed := true }
def FnExactFactDoUptoSaid : Prop := fnExactFactDoUptoRow.holds Try.pinned (OpenSpec.upto fnExactFactDoSpec)

/-- 'laws.FnExactFactsRun', WHERE WHAT IT READS IS OF BULK AT MOST 1048576: true; the input reads as it did. -/
def fnExactFactsRunUptoRow : OpenClaim := { program := "ytmnjppfebaeoiaa", sum := "9438919b5e724c5c05f9f484f7a116f8af99ac9b6ffc5845ce854050528f468a", func := "loop.example/g00709/laws.FnExactFactsRun", spec := "fnExactFactsRun", inPlace := ["slices.overlaps[loop.example/g00709/impl.Block]"], unfollowed := true, recurses := true, apart := false, narrowed := true }
def FnExactFactsRunUptoSaid : Prop := fnExactFactsRunUptoRow.holds Try.pinned (OpenSpec.upto fnExactFactsRunSpec)

end Rows
end Go.Proofs.Ytmnjppfebaeoiaa
