/- FnExactReqOk: the law's row, out of its pure statement and its walk. Conditions: none. -/
import Derived.Test.YtokgcjkdbhnlbaaRows
import Derived.Test.YtokgcjkdbhnlbaaPA2x5
import Derived.Test.YtokgcjkdbhnlbaaPureFnExactReqOk
import Derived.Test.YtokgcjkdbhnlbaaOpn
import Derived.WalkKit
import Derived.ProofKit
import Derived.OpenShut
import Derived.ShutString
import Derived.ChangeOld
import Derived.Below
import Derived.SizedLaws
namespace Go.Proofs.Ytokgcjkdbhnlbaa.fnExactReqOk
open Go.ChangeShapes Go.WideShapes Go.ChangeAt Go.RowKit Go.Proofs.Ytokgcjkdbhnlbaa.PA2 Go.Proofs.YtokgcjkdbhnlbaaW.PrintWords Go.Proofs.YtokgcjkdbhnlbaaW.PrintLast
set_option linter.unusedVariables false
theorem own : ownKnob Try.prog.godebug = none := by kernel_rfl
theorem laidOut : laidOutB Try.prog = true := by kernel_rfl
set_option maxRecDepth 100000 in
theorem lifted (os : Os) (started : os.Started) (H : Type) (enc : TypeId × Value → H) :
    ReturnsInHanded {} Try.checked os 8 .any (Rows.fnExactReqOkSpec.pre6 enc Try.prog Try.f8 Rows.fnExactReqOkRow.domain false) (Rows.fnExactReqOkSpec.post enc Try.prog Try.f8 false true false false) := by
  refine returnsInHanded_of_change_sized (C := Try.checked) own started (by kernel_rfl) Try.func8
    (ChangeSpec.witness6 (enc := enc) (C := Try.checked) false ⟨#[], #[.agg #[.int .i64 0, .slice none 0 0]], []⟩ 8 (by kernel_rfl) (by kernel_rfl) (by kernel_rfl) (by kernel_rfl)) ?_
  intro W base args ds gs before hval0 hW hcnd hsz0 _
  have hval : ∀ (j : Nat) t v, Try.f8.params[j]? = some t → args[j]? = some v → Value.okWide Try.prog W .any base t v := hval0
  have hW' := hW
  obtain ⟨p, q, hA0, hV, rfl, hfz, hnd⟩ := hW
  have hA : DataW.TrodAll enc Try.prog W 0 (fun _ => true) true Try.f8.params.toList args.toList ds p := hA0
  rw [Try.params8] at hA hval
  obtain ⟨v0, vs0, d0, ds0, p0, q0, hargs, rfl, rfl, h0, r0⟩ := trodAll_cons hA
  obtain ⟨rfl, rfl, rfl⟩ := trodAll_nil r0
  obtain rfl : args = #[v0] := by cases args; simp_all
  obtain ⟨rfl, rfl⟩ := trodVars_none hV
  have k0 := h0
  have lt0 : ∀ x ∈ p0, x.block < W.heap.size := by obtain ⟨m, hm⟩ := k0; exact DataW.trod_lt m _ _ _ hm
  obtain ⟨cs0, ⟨a0_0, l0_1⟩, rfl, hk0, ⟨w0_0, w0_1⟩⟩ := Opn.struct_arg Try.underlying45 (Opn.Opn.struct Try.underlying45 (by kernel_rfl) (Opn.OpnF.cons rfl (Opn.Opn.int Try.underlying3 (by kernel_rfl)) rfl (Opn.OpnF.one rfl (Opn.Opn.slice Try.underlying43 (by kernel_rfl) (Opn.Opn.int Try.underlying3 (by kernel_rfl)))))) (hval 0 45 v0 rfl rfl) h0
  obtain ⟨_, _, e0, rfl, ⟨A0_1, c0_1, rfl, hc0_1, hr0_1⟩⟩ := hk0
  obtain rfl : cs0 = #[.int .i64 a0_0, .slice A0_1 l0_1.length c0_1] := Array.toList_inj.1 (e0.trans rfl)
  clear hA0 hval0 hsz0
  obtain ⟨k, h⟩ := Pure.FnExactReqOk a0_0 l0_1 w0_0 w0_1
  refine (laws_FnExactReqOk.calls k a0_0 A0_1 c0_1 l0_1 true W hr0_1 hc0_1 h).mono fun e W' ⟨he, bel0⟩ => ?_
  have bel : Below W.heap.size W W' := bel0
  subst he
  exact ⟨_, rfl, _, _, _, [], _, [], hW', trodAll_mk1 (shut_bool Try.underlying4 _), (trodAll_cons_mk (Below.trod laidOut (by kernel_rfl) (of_decide_eq_true (by kernel_rfl)) k0 bel lt0) trodAll_mk0), rfl, bel.frame _, fun h => by cases h⟩
theorem over : Rows.fnExactReqOkRow.holds Try.pinned (OpenSpec.ofChange Rows.fnExactReqOkSpec) :=
  OpenClaim.holds_of_wide 8 Try.f8 rfl rfl rfl rfl rfl rfl rfl ⟨rfl, rfl, rfl, rfl, rfl⟩ rfl rfl rfl rfl rfl (by kernel_rfl) Try.func8 (by kernel_rfl)
    (of_decide_eq_true (by kernel_rfl)) (by unfold Func.isWrapper; first | (rw [if_pos (by decide +kernel)]; kernel_rfl) | (rw [if_neg (by decide +kernel)]; exact ⟨rfl, rfl⟩))
    (fun os started H enc _ => lifted os started H enc)
theorem proved : Rows.FnExactReqOkSaid := over
#print axioms proved
end Go.Proofs.Ytokgcjkdbhnlbaa.fnExactReqOk
namespace Go.Proofs.Ytokgcjkdbhnlbaa
/-- The row, under a short name, for the claim. -/
theorem fnExactReqOk_holds : Rows.FnExactReqOkSaid := fnExactReqOk.proved
end Go.Proofs.Ytokgcjkdbhnlbaa
