/- FnExactWarpSubmit: the law's row, out of its pure statement and its walk. Conditions: none. -/
import Derived.Test.YtfhcnnkeokjfpaaDoorRows
import Derived.Test.YtfhcnnkeokjfpaaDoorPS1x6
import Derived.Test.YtfhcnnkeokjfpaaDoorPureFnExactWarpSubmitS1
import Derived.Test.YtfhcnnkeokjfpaaDoorOpnS1
import Derived.Test.YtfhcnnkeokjfpaaDoorLaidS1
import Derived.Test.YtfhcnnkeokjfpaaDoorCards
import Derived.Test.YtfhcnnkeokjfpaaDoorTie
import Derived.SevenTiedAt
import Derived.Handed
import Derived.WalkKit
import Derived.ProofKit
import Derived.OpenShut
import Derived.ShutString
import Derived.ChangeOld
import Derived.Below
import Derived.SizedLaws
namespace Go.Proofs.YtfhcnnkeokjfpaaDoor.fnExactWarpSubmit
open Go.ChangeShapes Go.WideShapes Go.ChangeAt Go.RowKit Go.Proofs.YtfhcnnkeokjfpaaDoor.PS1 Go.Proofs.YtfhcnnkeokjfpaaDoorW.PrintWords Go.Proofs.YtfhcnnkeokjfpaaDoorW.PrintLast
set_option linter.unusedVariables false
theorem own : ownKnob Tryd.prog.godebug = none := by kernel_rfl
theorem laidOut : laidOutB Tryd.prog = true := by kernel_rfl
set_option maxRecDepth 100000 in
theorem lifted (os : Os) (started : os.Started) (H : Type) (enc : TypeId × Value → H) :
    ReturnsInHanded {} Tryd.checked os 5 .any (fun w args => (Rows.fnExactWarpSubmitSpec.pre enc Tryd.prog Tryd.f5 Rows.fnExactWarpSubmitRow.domain false w args ∧ laidMetH Tryd.prog Laid.laid w) ∧ sizedMet enc Tryd.prog Tryd.f5 (OpenSpec.ofChange Rows.fnExactWarpSubmitSpec) false w args) (Rows.fnExactWarpSubmitSpec.post enc Tryd.prog Tryd.f5 false true false false) := by
  refine returnsInHanded_of_change_and (C := Tryd.checked) (X := fun w _ => laidMetH Tryd.prog Laid.laid w) (fun _ _ _ hh h => h.of_heap hh) own started (by kernel_rfl) Tryd.func5
    (ChangeSpec.witness_at (enc := enc) (C := Tryd.checked) (os := os) (X := fun w _ => laidMetH Tryd.prog Laid.laid w) false (Laid.laidWorld os) #[.agg #[.int .i64 0, .slice none 0 0, .slice none 0 0, .int .u32 0, .int .i64 0, .int .i64 0, .int .i64 0, .int .u32 0], .agg #[.int .i64 0, .slice none 0 0]] 8 rfl (by kernel_rfl) (by kernel_rfl) (by kernel_rfl) (by kernel_rfl) (by kernel_rfl) (Laid.laidWorld_met os _)) ?_
  intro W base args ds gs before hval0 hW hcnd hsz0 hL _
  have hval : ∀ (j : Nat) t v, Tryd.f5.params[j]? = some t → args[j]? = some v → Value.okWide Tryd.prog W .any base t v := hval0
  have hW' := hW
  obtain ⟨p, q, hA0, hV, rfl, hfz, hnd⟩ := hW
  have hA : DataW.TrodAll enc Tryd.prog W 0 (fun _ => true) true Tryd.f5.params.toList args.toList ds p := hA0
  rw [Tryd.params5] at hA hval
  obtain ⟨v0, vs0, d0, ds0, p0, q0, hargs, rfl, rfl, h0, r0⟩ := trodAll_cons hA
  obtain ⟨v1, vs1, d1, ds1, p1, q1, rfl, rfl, rfl, h1, r1⟩ := trodAll_cons r0
  obtain ⟨rfl, rfl, rfl⟩ := trodAll_nil r1
  obtain rfl : args = #[v0, v1] := by cases args; simp_all
  obtain ⟨rfl, rfl⟩ := trodVars_none hV
  have k0 := h0
  have lt0 : ∀ x ∈ p0, x.block < W.heap.size := by obtain ⟨m, hm⟩ := k0; exact DataW.trod_lt m _ _ _ hm
  obtain ⟨cs0, ⟨a0_0, l0_1, l0_2, a0_3, a0_4, a0_5, a0_6, a0_7⟩, rfl, hk0, ⟨w0_0, w0_1, w0_2, w0_3, w0_4, w0_5, w0_6, w0_7⟩⟩ := Opn.struct_arg Tryd.underlying25 (Opn.Opn.struct Tryd.underlying25 (by kernel_rfl) (Opn.OpnF.cons rfl (Opn.Opn.int Tryd.underlying3 (by kernel_rfl)) rfl (Opn.OpnF.cons rfl (Opn.Opn.slice Tryd.underlying22 (by kernel_rfl) (Opn.Opn.int Tryd.underlying3 (by kernel_rfl))) rfl (Opn.OpnF.cons rfl (Opn.Opn.slice Tryd.underlying22 (by kernel_rfl) (Opn.Opn.int Tryd.underlying3 (by kernel_rfl))) rfl (Opn.OpnF.cons rfl (Opn.Opn.int Tryd.underlying23 (by kernel_rfl)) rfl (Opn.OpnF.cons rfl (Opn.Opn.int Tryd.underlying3 (by kernel_rfl)) rfl (Opn.OpnF.cons rfl (Opn.Opn.int Tryd.underlying3 (by kernel_rfl)) rfl (Opn.OpnF.cons rfl (Opn.Opn.int Tryd.underlying3 (by kernel_rfl)) rfl (Opn.OpnF.one rfl (Opn.Opn.int Tryd.underlying23 (by kernel_rfl))))))))))) (hval 0 25 v0 rfl rfl) h0
  obtain ⟨_, _, e0, rfl, ⟨_, _, rfl, ⟨A0_1, c0_1, rfl, hc0_1, hr0_1⟩, ⟨_, _, rfl, ⟨A0_2, c0_2, rfl, hc0_2, hr0_2⟩, ⟨_, _, rfl, rfl, ⟨_, _, rfl, rfl, ⟨_, _, rfl, rfl, ⟨_, _, rfl, rfl, rfl⟩⟩⟩⟩⟩⟩⟩ := hk0
  obtain rfl : cs0 = #[.int .i64 a0_0, .slice A0_1 l0_1.length c0_1, .slice A0_2 l0_2.length c0_2, .int .u32 a0_3, .int .i64 a0_4, .int .i64 a0_5, .int .i64 a0_6, .int .u32 a0_7] := Array.toList_inj.1 (e0.trans rfl)
  have k1 := h1
  have lt1 : ∀ x ∈ p1, x.block < W.heap.size := by obtain ⟨m, hm⟩ := k1; exact DataW.trod_lt m _ _ _ hm
  obtain ⟨cs1, ⟨a1_0, l1_1⟩, rfl, hk1, ⟨w1_0, w1_1⟩⟩ := Opn.struct_arg Tryd.underlying35 (Opn.Opn.struct Tryd.underlying35 (by kernel_rfl) (Opn.OpnF.cons rfl (Opn.Opn.int Tryd.underlying3 (by kernel_rfl)) rfl (Opn.OpnF.one rfl (Opn.Opn.slice Tryd.underlying22 (by kernel_rfl) (Opn.Opn.int Tryd.underlying3 (by kernel_rfl)))))) (hval 1 35 v1 rfl rfl) h1
  obtain ⟨_, _, e1, rfl, ⟨A1_1, c1_1, rfl, hc1_1, hr1_1⟩⟩ := hk1
  obtain rfl : cs1 = #[.int .i64 a1_0, .slice A1_1 l1_1.length c1_1] := Array.toList_inj.1 (e1.trans rfl)
  clear hA0 hval0 hsz0
  obtain ⟨k, h⟩ := Pure.FnExactWarpSubmit a0_0 l0_1 l0_2 a0_3 a0_4 a0_5 a0_6 a0_7 a1_0 l1_1 w0_0 w0_1 w0_2 w0_3 w0_4 w0_5 w0_6 w0_7 w1_0 w1_1
  refine (laws_FnExactWarpSubmit.calls k a0_0 A0_1 c0_1 l0_1 A0_2 c0_2 l0_2 a0_3 a0_4 a0_5 a0_6 a0_7 a1_0 A1_1 c1_1 l1_1 true W hr0_1 hc0_1 hr0_2 hc0_2 hr1_1 hc1_1 h (Laid.tab_of_laid hL)).mono fun e W' ⟨he, bel0⟩ => ?_
  have bel : Below W.heap.size W W' := bel0
  subst he
  exact ⟨_, rfl, _, _, _, [], _, [], hW', trodAll_mk1 (shut_bool Tryd.underlying4 _), (trodAll_cons_mk (Below.trod laidOut (by kernel_rfl) (of_decide_eq_true (by kernel_rfl)) k0 bel lt0) (trodAll_cons_mk (Below.trod laidOut (by kernel_rfl) (of_decide_eq_true (by kernel_rfl)) k1 bel lt1) trodAll_mk0)), rfl, bel.frame _, fun h => by cases h⟩
theorem over : Rows.fnExactWarpSubmitRow.holds Tryd.pinned (OpenSpec.ofChange Rows.fnExactWarpSubmitSpec) :=
  OpenClaim.holds_of_wide 5 Tryd.f5 rfl rfl rfl rfl rfl rfl rfl ⟨rfl, rfl, rfl, rfl, rfl⟩ rfl rfl rfl rfl rfl (by kernel_rfl) Tryd.func5 (by kernel_rfl)
    (of_decide_eq_true (by kernel_rfl)) (by unfold Func.isWrapper; first | (rw [if_pos (by decide +kernel)]; kernel_rfl) | (rw [if_neg (by decide +kernel)]; exact ⟨rfl, rfl⟩))
    (fun os started H enc _ => lifted os started H enc)
theorem card : Claim7.holds Tryd.pinned (.plain (OpenSpec.ofChange Rows.fnExactWarpSubmitSpec)) Rows.fnExactWarpSubmitCard :=
  Claim7.holds_tied_plain_at .later [] [.data] true (true, "00b72d6f363f995a11670f65d5cfbc0d47a47563b42b0e5cc807aa7544c10e7c") false
    over (fun _ h => by cases h) (by kernel_rfl) (fun _ h => by cases h) fnExactWarpSubmit_row_tie rfl ⟨rfl, rfl⟩ (by kernel_rfl) rfl
    (fun f fn hf hfn => by
      obtain rfl : f = 5 := Option.some.inj ((show Tryd.prog.funcNamed "loop.example/g00709/laws.FnExactWarpSubmit" = some 5 by kernel_rfl).symm.trans hf) |>.symm
      obtain rfl : fn = Tryd.f5 := (Option.some.inj (Tryd.func5.symm.trans hfn)).symm
      exact ⟨by kernel_rfl, fun j t ht => by
        rw [Tryd.params5] at ht
        have hm : t ∈ ([25, 35] : List TypeId) := by simpa using Array.mem_of_getElem? ht
        have hall : (([25, 35] : List TypeId).all fun u => !Tryd.prog.wantsStandIn u) = true := by kernel_rfl
        exact (show Tryd.prog.wantsStandIn t = false by simpa using List.all_eq_true.1 hall t hm)⟩)
    (by kernel_rfl)
theorem proved : Rows.FnExactWarpSubmitCardSaid := card
#print axioms proved
end Go.Proofs.YtfhcnnkeokjfpaaDoor.fnExactWarpSubmit
namespace Go.Proofs.YtfhcnnkeokjfpaaDoor
/-- The card, under a short name, for the claim. -/
theorem fnExactWarpSubmit_holds : Rows.FnExactWarpSubmitCardSaid := fnExactWarpSubmit.proved
end Go.Proofs.YtfhcnnkeokjfpaaDoor
