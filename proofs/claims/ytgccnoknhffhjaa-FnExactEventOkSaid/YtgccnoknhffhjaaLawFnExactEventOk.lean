/- FnExactEventOk: the law's row, out of its pure statement and its walk. Conditions: none. -/
import Derived.Test.YtgccnoknhffhjaaRows
import Derived.Test.YtgccnoknhffhjaaPA1x22
import Derived.Test.YtgccnoknhffhjaaPureFnExactEventOk
import Derived.Test.YtgccnoknhffhjaaOpn
import Derived.WalkKit
import Derived.ProofKit
import Derived.OpenShut
import Derived.ShutString
import Derived.ChangeOld
import Derived.Below
import Derived.SizedLaws
namespace Go.Proofs.Ytgccnoknhffhjaa.fnExactEventOk
open Go.ChangeShapes Go.WideShapes Go.ChangeAt Go.RowKit Go.Proofs.Ytgccnoknhffhjaa.PA1 Go.Proofs.YtgccnoknhffhjaaW.PrintWords Go.Proofs.YtgccnoknhffhjaaW.PrintLast
set_option linter.unusedVariables false
theorem own : ownKnob Try.prog.godebug = none := by kernel_rfl
theorem laidOut : laidOutB Try.prog = true := by kernel_rfl
set_option maxRecDepth 100000 in
theorem lifted (os : Os) (started : os.Started) (H : Type) (enc : TypeId × Value → H) :
    ReturnsInHanded {} Try.checked os 10 .any (Rows.fnExactEventOkSpec.pre6 enc Try.prog Try.f10 Rows.fnExactEventOkRow.domain false) (Rows.fnExactEventOkSpec.post enc Try.prog Try.f10 false true false false) := by
  refine returnsInHanded_of_change_sized (C := Try.checked) own started (by kernel_rfl) Try.func10
    (ChangeSpec.witness6 (enc := enc) (C := Try.checked) false ⟨#[], #[.agg #[.int .i64 0, .int .i64 0, .int .i64 0, .int .i64 0, .slice none 0 0]], []⟩ 8 (by kernel_rfl) (by kernel_rfl) (by kernel_rfl) (by kernel_rfl)) ?_
  intro W base args ds gs before hval0 hW hcnd hsz0 _
  have hval : ∀ (j : Nat) t v, Try.f10.params[j]? = some t → args[j]? = some v → Value.okWide Try.prog W .any base t v := hval0
  have hW' := hW
  obtain ⟨p, q, hA0, hV, rfl, hfz, hnd⟩ := hW
  have hA : DataW.TrodAll enc Try.prog W 0 (fun _ => true) true Try.f10.params.toList args.toList ds p := hA0
  rw [Try.params10] at hA hval
  obtain ⟨v0, vs0, d0, ds0, p0, q0, hargs, rfl, rfl, h0, r0⟩ := trodAll_cons hA
  obtain ⟨rfl, rfl, rfl⟩ := trodAll_nil r0
  obtain rfl : args = #[v0] := by cases args; simp_all
  obtain ⟨rfl, rfl⟩ := trodVars_none hV
  have k0 := h0
  have lt0 : ∀ x ∈ p0, x.block < W.heap.size := by obtain ⟨m, hm⟩ := k0; exact DataW.trod_lt m _ _ _ hm
  obtain ⟨cs0, ⟨a0_0, a0_1, a0_2, ⟨a0_3, l0_4⟩⟩, rfl, hk0, ⟨w0_0, w0_1, w0_2, ⟨w0_3, w0_4⟩⟩⟩ := Opn.struct_arg Try.underlying61 (Opn.Opn.struct Try.underlying61 (by kernel_rfl) (Opn.OpnF.cons rfl (Opn.Opn.int Try.underlying3 (by kernel_rfl)) rfl (Opn.OpnF.cons rfl (Opn.Opn.int Try.underlying3 (by kernel_rfl)) rfl (Opn.OpnF.cons rfl (Opn.Opn.int Try.underlying3 (by kernel_rfl)) rfl (Opn.OpnF.one rfl (Opn.Opn.struct Try.underlying59 (by kernel_rfl) (Opn.OpnF.cons rfl (Opn.Opn.int Try.underlying3 (by kernel_rfl)) rfl (Opn.OpnF.one rfl (Opn.Opn.slice Try.underlying39 (by kernel_rfl) (Opn.Opn.int Try.underlying3 (by kernel_rfl))))))))))) (hval 0 61 v0 rfl rfl) h0
  obtain ⟨_, _, e0, rfl, ⟨_, _, rfl, rfl, ⟨_, _, rfl, rfl, ⟨_, _, rfl, rfl, ⟨A0_4, c0_4, rfl, hc0_4, hr0_4⟩⟩⟩⟩⟩ := hk0
  obtain rfl : cs0 = #[.int .i64 a0_0, .int .i64 a0_1, .int .i64 a0_2, .int .i64 a0_3, .slice A0_4 l0_4.length c0_4] := Array.toList_inj.1 (e0.trans rfl)
  clear hA0 hval0 hsz0
  obtain ⟨k, h⟩ := Pure.FnExactEventOk a0_0 a0_1 a0_2 a0_3 l0_4 w0_0 w0_1 w0_2 w0_3 w0_4
  refine (laws_FnExactEventOk.calls k a0_0 a0_1 a0_2 a0_3 A0_4 c0_4 l0_4 true W hr0_4 hc0_4 h).mono fun e W' ⟨he, bel0⟩ => ?_
  have bel : Below W.heap.size W W' := bel0
  subst he
  exact ⟨_, rfl, _, _, _, [], _, [], hW', trodAll_mk1 (shut_bool Try.underlying4 _), (trodAll_cons_mk (Below.trod laidOut (by kernel_rfl) (of_decide_eq_true (by kernel_rfl)) k0 bel lt0) trodAll_mk0), rfl, bel.frame _, fun h => by cases h⟩
theorem over : Rows.fnExactEventOkRow.holds Try.pinned (OpenSpec.ofChange Rows.fnExactEventOkSpec) :=
  OpenClaim.holds_of_wide 10 Try.f10 rfl rfl rfl rfl rfl rfl rfl ⟨rfl, rfl, rfl, rfl, rfl⟩ rfl rfl rfl rfl rfl (by kernel_rfl) Try.func10 (by kernel_rfl)
    (of_decide_eq_true (by kernel_rfl)) (by unfold Func.isWrapper; first | (rw [if_pos (by decide +kernel)]; kernel_rfl) | (rw [if_neg (by decide +kernel)]; exact ⟨rfl, rfl⟩))
    (fun os started H enc _ => lifted os started H enc)
theorem proved : Rows.FnExactEventOkSaid := over
#print axioms proved
end Go.Proofs.Ytgccnoknhffhjaa.fnExactEventOk
namespace Go.Proofs.Ytgccnoknhffhjaa
/-- The row, under a short name, for the claim. -/
theorem fnExactEventOk_holds : Rows.FnExactEventOkSaid := fnExactEventOk.proved
end Go.Proofs.Ytgccnoknhffhjaa
