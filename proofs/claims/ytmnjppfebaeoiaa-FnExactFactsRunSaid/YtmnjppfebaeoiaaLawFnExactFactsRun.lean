/- FnExactFactsRun: the law's row, out of its pure statement and its walk. Conditions: none. -/
import Derived.Test.YtmnjppfebaeoiaaRows
import Derived.Test.YtmnjppfebaeoiaaPB1x40
import Derived.Test.YtmnjppfebaeoiaaPureFnExactFactsRun
import Derived.Test.YtmnjppfebaeoiaaOpn
import Derived.WalkKit
import Derived.ProofKit
import Derived.OpenShut
import Derived.ShutString
import Derived.ChangeOld
import Derived.Below
import Derived.SizedLaws
namespace Go.Proofs.Ytmnjppfebaeoiaa.fnExactFactsRun
open Go.ChangeShapes Go.WideShapes Go.ChangeAt Go.RowKit Go.Proofs.Ytmnjppfebaeoiaa.PB1 Go.Proofs.YtmnjppfebaeoiaaW.PrintWords Go.Proofs.YtmnjppfebaeoiaaW.PrintLast
set_option linter.unusedVariables false
theorem own : ownKnob Try.prog.godebug = none := by kernel_rfl
theorem laidOut : laidOutB Try.prog = true := by kernel_rfl
set_option maxRecDepth 100000 in
theorem lifted (os : Os) (started : os.Started) (H : Type) (enc : TypeId × Value → H) :
    ReturnsInHanded {} Try.checked os 13 .any (Rows.fnExactFactsRunSpec.pre6 enc Try.prog Try.f13 Rows.fnExactFactsRunRow.domain false) (Rows.fnExactFactsRunSpec.post enc Try.prog Try.f13 false true false false) := by
  refine returnsInHanded_of_change_sized (C := Try.checked) own started (by kernel_rfl) Try.func13
    (ChangeSpec.witness6 (enc := enc) (C := Try.checked) false ⟨#[], #[.slice none 0 0], []⟩ 8 (by kernel_rfl) (by kernel_rfl) (by kernel_rfl) (by kernel_rfl)) ?_
  intro W base args ds gs before hval0 hW hcnd hsz0 _
  have hval : ∀ (j : Nat) t v, Try.f13.params[j]? = some t → args[j]? = some v → Value.okWide Try.prog W .any base t v := hval0
  have hW' := hW
  obtain ⟨p, q, hA0, hV, rfl, hfz, hnd⟩ := hW
  have hA : DataW.TrodAll enc Try.prog W 0 (fun _ => true) true Try.f13.params.toList args.toList ds p := hA0
  rw [Try.params13] at hA hval
  obtain ⟨v0, vs0, d0, ds0, p0, q0, hargs, rfl, rfl, h0, r0⟩ := trodAll_cons hA
  obtain ⟨rfl, rfl, rfl⟩ := trodAll_nil r0
  obtain rfl : args = #[v0] := by cases args; simp_all
  obtain ⟨rfl, rfl⟩ := trodVars_none hV
  have k0 := h0
  have lt0 : ∀ x ∈ p0, x.block < W.heap.size := by obtain ⟨m, hm⟩ := k0; exact DataW.trod_lt m _ _ _ hm
  obtain ⟨A0, c0, l0, rfl, hc0, hr0, w0⟩ := Opn.slice_arg Try.underlying98 (Opn.Opn.slice Try.underlying98 (by kernel_rfl) (Opn.Opn.iso (k := (Kd.pair (Kd.int .i64) (Kd.pair (Kd.int .i64) (Kd.pair (Kd.int .i64) (Kd.pair (Kd.int .i64) (Kd.int .i64)))))) (f := fun x : S93 => (x.f0, x.f1, x.f2, x.f3, x.f4)) (fun p_ => ⟨p_.1, p_.2.1, p_.2.2.1, p_.2.2.2.1, p_.2.2.2.2⟩) (fun _ => rfl) (Opn.Opn.struct Try.underlying93 (by kernel_rfl) (Opn.OpnF.cons rfl (Opn.Opn.int Try.underlying3 (by kernel_rfl)) rfl (Opn.OpnF.cons rfl (Opn.Opn.int Try.underlying3 (by kernel_rfl)) rfl (Opn.OpnF.cons rfl (Opn.Opn.int Try.underlying3 (by kernel_rfl)) rfl (Opn.OpnF.cons rfl (Opn.Opn.int Try.underlying3 (by kernel_rfl)) rfl (Opn.OpnF.one rfl (Opn.Opn.int Try.underlying3 (by kernel_rfl)))))))))) (hval 0 98 v0 rfl rfl) h0
  clear hA0 hval0 hsz0
  obtain ⟨k, h⟩ := Pure.FnExactFactsRun l0 w0
  refine (laws_FnExactFactsRun.calls k A0 c0 l0 true W hr0 hc0 h).mono fun e W' ⟨he, bel0⟩ => ?_
  have bel : Below W.heap.size W W' := bel0
  subst he
  exact ⟨_, rfl, _, _, _, [], _, [], hW', trodAll_mk1 (shut_bool Try.underlying4 _), (trodAll_cons_mk (Below.trod laidOut (by kernel_rfl) (of_decide_eq_true (by kernel_rfl)) k0 bel lt0) trodAll_mk0), rfl, bel.frame _, fun h => by cases h⟩
theorem over : Rows.fnExactFactsRunRow.holds Try.pinned (OpenSpec.ofChange Rows.fnExactFactsRunSpec) :=
  OpenClaim.holds_of_wide 13 Try.f13 rfl rfl rfl rfl rfl rfl rfl ⟨rfl, rfl, rfl, rfl, rfl⟩ rfl rfl rfl rfl rfl (by kernel_rfl) Try.func13 (by kernel_rfl)
    (of_decide_eq_true (by kernel_rfl)) (by unfold Func.isWrapper; first | (rw [if_pos (by decide +kernel)]; kernel_rfl) | (rw [if_neg (by decide +kernel)]; exact ⟨rfl, rfl⟩))
    (fun os started H enc _ => lifted os started H enc)
theorem proved : Rows.FnExactFactsRunSaid := over
#print axioms proved
end Go.Proofs.Ytmnjppfebaeoiaa.fnExactFactsRun
namespace Go.Proofs.Ytmnjppfebaeoiaa
/-- The row, under a short name, for the claim. -/
theorem fnExactFactsRun_holds : Rows.FnExactFactsRunSaid := fnExactFactsRun.proved
end Go.Proofs.Ytmnjppfebaeoiaa
