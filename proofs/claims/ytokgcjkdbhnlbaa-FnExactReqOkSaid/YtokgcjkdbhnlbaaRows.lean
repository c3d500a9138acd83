/-
  No cell of these rows narrows 'for every input' (looked for: loops, veiled, ifaces, maps, wideKeys, modest, calm, conditions, laid).
  DERIVED. THE GIVEN ROWS OF THIS SEAT. 6 by the template 'for every input the law returns true; each argument reads behind the call as it read before'; 0 by the template 'total and deterministic' (their statements: YtokgcjkdbhnlbaaTotals.lean).
  GIVEN WITH THE SEED: the statements are not yours to turn. If you find one false, say at which input.
  Laid BY PROGRAM, IN A SANDBOX (cutbox-rows.mjs): the forced cells as the released guide's own fill.sh prints them over the translation 10b661240e287b00… (all of the seat's roots in one cut). By AI agents, Wed Nov 11 2026. No macro, syntax, notation, axiom, sorry.
-/
import Derived.Test.YtokgcjkdbhnlbaaChecked
import GoSem.Claim
import GoSem.ClaimJoined
import GoSem.ClaimMapViews
import Derived.JoinedTies
import Derived.KernelRfl
namespace Go.Proofs.Ytokgcjkdbhnlbaa
/- THE CELL 'sum', in the pinned program and in every row, IS THE sha256 OF THE DUMP (.gsa) THAT YtokgcjkdbhnlbaaProg.lean LOADS. Nothing in Lean hashes anything: it is a label: what it is worth is what the hold of that sum in a sandbox is worth. -/
noncomputable def Try.pinned : Pinned := { name := "ytokgcjkdbhnlbaa", sum := "10b661240e287b005c102d9d74d721cddd4c558b7f21c64ec73afe2907fc30ef", checked := Try.checked }
namespace Rows
def none {H : Type} : Left H := { results := [], args := [] }

/-- 'laws.FnExactBound': WHATEVER THE INPUT: true; the input reads as it did. -/
def fnExactBoundSpec : ChangeSpec := { name := "fnExactBound", fn := fun _ => fun
  | [d] => { results := [.lit (.bool true)], args := [d] }
  | _ => none }
def fnExactBoundRow : OpenClaim := { program := "ytokgcjkdbhnlbaa", sum := "10b661240e287b005c102d9d74d721cddd4c558b7f21c64ec73afe2907fc30ef", func := "loop.example/g00709/laws.FnExactBound", spec := "fnExactBound", apart := false }
def FnExactBoundSaid : Prop := fnExactBoundRow.holds Try.pinned (OpenSpec.ofChange fnExactBoundSpec)

/-- ITS FALSE NEIGHBOUR: 'it returns false'. Refute it at one input. -/
def fnExactBoundWrong : ChangeSpec := { name := "fnExactBound", fn := fun _ => fun
  | [d] => { results := [.lit (.bool false)], args := [d] }
  | _ => none }
def FnExactBoundWrongFalsely : Prop := fnExactBoundRow.holds Try.pinned (OpenSpec.ofChange fnExactBoundWrong)

/-- 'laws.FnExactWarpStart': WHATEVER THE INPUT: true; the input reads as it did. -/
def fnExactWarpStartSpec : ChangeSpec := { name := "fnExactWarpStart", fn := fun _ => fun
  | [d1, d2, d3] => { results := [.lit (.bool true)], args := [d1, d2, d3] }
  | _ => none }
def fnExactWarpStartRow : OpenClaim := { program := "ytokgcjkdbhnlbaa", sum := "10b661240e287b005c102d9d74d721cddd4c558b7f21c64ec73afe2907fc30ef", func := "loop.example/g00709/laws.FnExactWarpStart", spec := "fnExactWarpStart", apart := false }
def FnExactWarpStartSaid : Prop := fnExactWarpStartRow.holds Try.pinned (OpenSpec.ofChange fnExactWarpStartSpec)

/-- ITS FALSE NEIGHBOUR: 'it returns false'. Refute it at one input. -/
def fnExactWarpStartWrong : ChangeSpec := { name := "fnExactWarpStart", fn := fun _ => fun
  | [d1, d2, d3] => { results := [.lit (.bool false)], args := [d1, d2, d3] }
  | _ => none }
def FnExactWarpStartWrongFalsely : Prop := fnExactWarpStartRow.holds Try.pinned (OpenSpec.ofChange fnExactWarpStartWrong)

/-- 'laws.FnExactFactOk': WHATEVER THE INPUT: true; the input reads as it did. -/
def fnExactFactOkSpec : ChangeSpec := { name := "fnExactFactOk", fn := fun _ => fun
  | [d] => { results := [.lit (.bool true)], args := [d] }
  | _ => none }
def fnExactFactOkRow : OpenClaim := { program := "ytokgcjkdbhnlbaa", sum := "10b661240e287b005c102d9d74d721cddd4c558b7f21c64ec73afe2907fc30ef", func := "loop.example/g00709/laws.FnExactFactOk", spec := "fnExactFactOk", apart := false }
def FnExactFactOkSaid : Prop := fnExactFactOkRow.holds Try.pinned (OpenSpec.ofChange fnExactFactOkSpec)

/-- ITS FALSE NEIGHBOUR: 'it returns false'. Refute it at one input. -/
def fnExactFactOkWrong : ChangeSpec := { name := "fnExactFactOk", fn := fun _ => fun
  | [d] => { results := [.lit (.bool false)], args := [d] }
  | _ => none }
def FnExactFactOkWrongFalsely : Prop := fnExactFactOkRow.holds Try.pinned (OpenSpec.ofChange fnExactFactOkWrong)

/-- 'laws.FnStarts': WHATEVER THE INPUT: true; the input reads as it did. -/
def fnStartsSpec : ChangeSpec := { name := "fnStarts", fn := fun _ => fun
  | [d] => { results := [.lit (.bool true)], args := [d] }
  | _ => none }
def fnStartsRow : OpenClaim := { program := "ytokgcjkdbhnlbaa", sum := "10b661240e287b005c102d9d74d721cddd4c558b7f21c64ec73afe2907fc30ef", func := "loop.example/g00709/laws.FnStarts", spec := "fnStarts", apart := false }
def FnStartsSaid : Prop := fnStartsRow.holds Try.pinned (OpenSpec.ofChange fnStartsSpec)

/-- ITS FALSE NEIGHBOUR: 'it returns false'. Refute it at one input. -/
def fnStartsWrong : ChangeSpec := { name := "fnStarts", fn := fun _ => fun
  | [d] => { results := [.lit (.bool false)], args := [d] }
  | _ => none }
def FnStartsWrongFalsely : Prop := fnStartsRow.holds Try.pinned (OpenSpec.ofChange fnStartsWrong)

/-- 'laws.FnExactLiveOk': WHATEVER THE INPUT: true; the input reads as it did. -/
def fnExactLiveOkSpec : ChangeSpec := { name := "fnExactLiveOk", fn := fun _ => fun
  | [d1, d2] => { results := [.lit (.bool true)], args := [d1, d2] }
  | _ => none }
def fnExactLiveOkRow : OpenClaim := { program := "ytokgcjkdbhnlbaa", sum := "10b661240e287b005c102d9d74d721cddd4c558b7f21c64ec73afe2907fc30ef", func := "loop.example/g00709/laws.FnExactLiveOk", spec := "fnExactLiveOk", apart := false }
def FnExactLiveOkSaid : Prop := fnExactLiveOkRow.holds Try.pinned (OpenSpec.ofChange fnExactLiveOkSpec)

/-- ITS FALSE NEIGHBOUR: 'it returns false'. Refute it at one input. -/
def fnExactLiveOkWrong : ChangeSpec := { name := "fnExactLiveOk", fn := fun _ => fun
  | [d1, d2] => { results := [.lit (.bool false)], args := [d1, d2] }
  | _ => none }
def FnExactLiveOkWrongFalsely : Prop := fnExactLiveOkRow.holds Try.pinned (OpenSpec.ofChange fnExactLiveOkWrong)

/-- 'laws.FnExactReqOk': WHATEVER THE INPUT: true; the input reads as it did. -/
def fnExactReqOkSpec : ChangeSpec := { name := "fnExactReqOk", fn := fun _ => fun
  | [d] => { results := [.lit (.bool true)], args := [d] }
  | _ => none }
def fnExactReqOkRow : OpenClaim := { program := "ytokgcjkdbhnlbaa", sum := "10b661240e287b005c102d9d74d721cddd4c558b7f21c64ec73afe2907fc30ef", func := "loop.example/g00709/laws.FnExactReqOk", spec := "fnExactReqOk", unfollowed := true, recurses := true, apart := false }
def FnExactReqOkSaid : Prop := fnExactReqOkRow.holds Try.pinned (OpenSpec.ofChange fnExactReqOkSpec)

/-- ITS FALSE NEIGHBOUR: 'it returns false'. Refute it at one input. -/
def fnExactReqOkWrong : ChangeSpec := { name := "fnExactReqOk", fn := fun _ => fun
  | [d] => { results := [.lit (.bool false)], args := [d] }
  | _ => none }
def FnExactReqOkWrongFalsely : Prop := fnExactReqOkRow.holds Try.pinned (OpenSpec.ofChange fnExactReqOkWrong)

/- THE SECOND FORM. 'bulk': how many values and letters a reading holds, each counted each time it is reached (what is shared counts as often as it is met; a slice's spare places count too). A statement '..UptoSaid' is the law's where the arguments, and the package variables that the reading takes, are together of bulk at most 1048576: NARROWER than '..Said'. Prove '..Said' where nothing that the law and all that it calls make is longer than what came in: it says more and counts as full. Else prove '..UptoSaid'. A law counts once. -/
mutual
def uptoBulk {H : Type} : DataW H → Nat
  | .lit (.string bytes) => bytes.length + 1
  | .lit _ => 1
  | .nil => 1
  | .ptr d => uptoBulk d + 1
  | .slice elems spare => uptoBulkAll elems + uptoBulkAll spare + 1
  | .agg parts => uptoBulkAll parts + 1
  | .iface _ d => uptoBulk d + 1
  | .map entries => uptoBulkEntries entries + 1
  | .held _ => 1
def uptoBulkAll {H : Type} : List (DataW H) → Nat
  | [] => 0
  | d :: r => uptoBulk d + uptoBulkAll r
def uptoBulkEntries {H : Type} : List (Lit × DataW H) → Nat
  | [] => 0
  | x :: r => uptoBulkEntry x + uptoBulkEntries r
def uptoBulkEntry {H : Type} : Lit × DataW H → Nat
  | (.string bytes, d) => bytes.length + uptoBulk d + 1
  | (_, d) => uptoBulk d + 1
 end
def uptoSmall : (H : Type) → List (DataW H) → Bool := fun _ ds => decide (uptoBulkAll ds ≤ 1048576)
def OpenSpec.upto (s : _root_.Go.ChangeSpec) : _root_.Go.OpenSpec := { _root_.Go.OpenSpec.ofChange s with cond := some uptoSmall }

/-- 'laws.FnExactBound', WHERE WHAT IT READS IS OF BULK AT MOST 1048576: true; the input reads as it did. -/
def fnExactBoundUptoRow : OpenClaim := { program := "ytokgcjkdbhnlbaa", sum := "10b661240e287b005c102d9d74d721cddd4c558b7f21c64ec73afe2907fc30ef", func := "loop.example/g00709/laws.FnExactBound", spec := "fnExactBound", apart := false, narrowed := true }
def FnExactBoundUptoSaid : Prop := fnExactBoundUptoRow.holds Try.pinned (OpenSpec.upto fnExactBoundSpec)

/-- 'laws.FnExactWarpStart', WHERE WHAT IT READS IS OF BULK AT MOST 1048576: true; the input reads as it did. -/
def fnExactWarpStartUptoRow : OpenClaim := { program := "ytokgcjkdbhnlbaa", sum := "10b661240e287b005c102d9d74d721cddd4c558b7f21c64ec73afe2907fc30ef", func := "loop.example/g00709/laws.FnExactWarpStart", spec := "fnExactWarpStart", apart := false, narrowed := true }
def FnExactWarpStartUptoSaid : Prop := fnExactWarpStartUptoRow.holds Try.pinned (OpenSpec.upto fnExactWarpStartSpec)

/-- 'laws.FnExactFactOk', WHERE WHAT IT READS IS OF BULK AT MOST 1048576: true; the input reads as it did. -/
def fnExactFactOkUptoRow : OpenClaim := { program := "ytokgcjkdbhnlbaa", sum := "10b661240e287b005c102d9d74d721cddd4c558b7f21c64ec73afe2907fc30ef", func := "loop.example/g00709/laws.FnExactFactOk", spec := "fnExactFactOk", apart := false, narrowed := true }
def FnExactFactOkUptoSaid : Prop := fnExactFactOkUptoRow.holds Try.pinned (OpenSpec.upto fnExactFactOkSpec)

/-- 'laws.FnStarts', WHERE WHAT IT READS IS OF BULK AT MOST 1048576: true; the input reads as it did. -/
def fnStartsUptoRow : OpenClaim := { program := "ytokgcjkdbhnlbaa", sum := "10b661240e287b005c102d9d74d721cddd4c558b7f21c64ec73afe2907fc30ef", func := "loop.example/g00709/laws.FnStarts", spec := "fnStarts", apart := false, narrowed := true }
def FnStartsUptoSaid : Prop := fnStartsUptoRow.holds Try.pinned (OpenSpec.upto fnStartsSpec)

/-- 'laws.FnExactLiveOk', WHERE WHAT IT READS IS OF BULK AT MOST 1048576: true; the input reads as it did. -/
def fnExactLiveOkUptoRow : OpenClaim := { program := "ytokgcjkdbhnlbaa", sum := "10b661240e287b005c102d9d74d721cddd4c558b7f21c64ec73afe2907fc30ef", func := "loop.example/g00709/laws.FnExactLiveOk", spec := "fnExactLiveOk", apart := false, narrowed := true }
def FnExactLiveOkUptoSaid : Prop := fnExactLiveOkUptoRow.holds Try.pinned (OpenSpec.upto fnExactLiveOkSpec)

/-- 'laws.FnExactReqOk', WHERE WHAT IT READS IS OF BULK AT MOST 1048576: true; the input reads as it did. -/
def fnExactReqOkUptoRow : OpenClaim := { program := "ytokgcjkdbhnlbaa", sum := "10b661240e287b005c102d9d74d721cddd4c558b7f21c64ec73afe2907fc30ef", func := "loop.example/g00709/laws.FnExactReqOk", spec := "fnExactReqOk", unfollowed := true, recurses := true, apart := false, narrowed := true }
def FnExactReqOkUptoSaid : Prop := fnExactReqOkUptoRow.holds Try.pinned (OpenSpec.upto fnExactReqOkSpec)

end Rows
end Go.Proofs.Ytokgcjkdbhnlbaa
