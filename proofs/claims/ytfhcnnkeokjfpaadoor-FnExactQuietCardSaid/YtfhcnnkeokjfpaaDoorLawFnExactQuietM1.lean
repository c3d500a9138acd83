/- FnExactQuiet: the law's row, out of its pure statement and its walk. Conditions: none. -/
import Derived.Test.YtfhcnnkeokjfpaaDoorRows
import Derived.Test.YtfhcnnkeokjfpaaDoorPM1yFnExactQuiet0
import Derived.Test.YtfhcnnkeokjfpaaDoorPureFnExactQuietM1
import Derived.Test.YtfhcnnkeokjfpaaDoorOpnM1
import Derived.Test.YtfhcnnkeokjfpaaDoorLaidM1
import Derived.Test.YtfhcnnkeokjfpaaDoorCards
import Derived.Test.YtfhcnnkeokjfpaaDoorTie
import Derived.SevenTiedAt
import Derived.Handed
import Derived.WalkKit
import Derived.ProofKit
import Derived.OpenShut
import Derived.ShutString
import Derived.ChangeOld
import Derived.Below
import Derived.SizedLaws
namespace Go.Proofs.YtfhcnnkeokjfpaaDoor.fnExactQuiet
open Go.ChangeShapes Go.WideShapes Go.ChangeAt Go.RowKit Go.Proofs.YtfhcnnkeokjfpaaDoor.PM1 Go.Proofs.YtfhcnnkeokjfpaaDoorW.PrintWords Go.Proofs.YtfhcnnkeokjfpaaDoorW.PrintLast
set_option linter.unusedVariables false
theorem own : ownKnob Tryd.prog.godebug = none := by kernel_rfl
theorem laidOut : laidOutB Tryd.prog = true := by kernel_rfl
set_option maxRecDepth 100000 in
theorem lifted (os : Os) (started : os.Started) (H : Type) (enc : TypeId × Value → H) :
    ReturnsInHanded {} Tryd.checked os 7 .any (fun w args => (Rows.fnExactQuietSpec.pre enc Tryd.prog Tryd.f7 Rows.fnExactQuietRow.domain false w args ∧ laidMetH Tryd.prog Laid.laid w) ∧ sizedMet enc Tryd.prog Tryd.f7 (OpenSpec.ofChange Rows.fnExactQuietSpec) false w args) (Rows.fnExactQuietSpec.post enc Tryd.prog Tryd.f7 false true false false) := by
  refine returnsInHanded_of_change_and (C := Tryd.checked) (X := fun w _ => laidMetH Tryd.prog Laid.laid w) (fun _ _ _ hh h => h.of_heap hh) own started (by kernel_rfl) Tryd.func7
    (ChangeSpec.witness_at (enc := enc) (C := Tryd.checked) (os := os) (X := fun w _ => laidMetH Tryd.prog Laid.laid w) false (Laid.laidWorld os) #[.agg #[.slice none 0 0, .slice none 0 0]] 8 rfl (by kernel_rfl) (by kernel_rfl) (by kernel_rfl) (by kernel_rfl) (by kernel_rfl) (Laid.laidWorld_met os _)) ?_
  intro W base args ds gs before hval0 hW hcnd hsz0 hL _
  have hval : ∀ (j : Nat) t v, Tryd.f7.params[j]? = some t → args[j]? = some v → Value.okWide Tryd.prog W .any base t v := hval0
  have hW' := hW
  obtain ⟨p, q, hA0, hV, rfl, hfz, hnd⟩ := hW
  have hA : DataW.TrodAll enc Tryd.prog W 0 (fun _ => true) true Tryd.f7.params.toList args.toList ds p := hA0
  rw [Tryd.params7] at hA hval
  obtain ⟨v0, vs0, d0, ds0, p0, q0, hargs, rfl, rfl, h0, r0⟩ := trodAll_cons hA
  obtain ⟨rfl, rfl, rfl⟩ := trodAll_nil r0
  obtain rfl : args = #[v0] := by cases args; simp_all
  obtain ⟨rfl, rfl⟩ := trodVars_none hV
  have k0 := h0
  have lt0 : ∀ x ∈ p0, x.block < W.heap.size := by obtain ⟨m, hm⟩ := k0; exact DataW.trod_lt m _ _ _ hm
  obtain ⟨cs0, ⟨l0_0, l0_1⟩, rfl, hk0, ⟨w0_0, w0_1⟩⟩ := Opn.struct_arg Tryd.underlying50 (Opn.Opn.struct Tryd.underlying50 (by kernel_rfl) (Opn.OpnF.cons rfl (Opn.Opn.struct Tryd.underlying47 (by kernel_rfl) (Opn.OpnF.one rfl (Opn.Opn.slice Tryd.underlying45 (by kernel_rfl) (Opn.Opn.int Tryd.underlying23 (by kernel_rfl))))) rfl (Opn.OpnF.one rfl (Opn.Opn.slice Tryd.underlying48 (by kernel_rfl) (Opn.Opn.iso (k := (Kd.pair (Kd.int .i64) (Kd.pair (Kd.slice 3 (Kd.int .i64)) (Kd.pair (Kd.slice 3 (Kd.int .i64)) (Kd.pair (Kd.int .u32) (Kd.pair (Kd.int .i64) (Kd.pair (Kd.int .i64) (Kd.pair (Kd.int .i64) (Kd.int .u32))))))))) (f := fun x : S25 => (x.f0, x.f1, x.f2, x.f3, x.f4, x.f5, x.f6, x.f7)) (fun p_ => ⟨p_.1, p_.2.1, p_.2.2.1, p_.2.2.2.1, p_.2.2.2.2.1, p_.2.2.2.2.2.1, p_.2.2.2.2.2.2.1, p_.2.2.2.2.2.2.2⟩) (fun _ => rfl) (Opn.Opn.struct Tryd.underlying25 (by kernel_rfl) (Opn.OpnF.cons rfl (Opn.Opn.int Tryd.underlying3 (by kernel_rfl)) rfl (Opn.OpnF.cons rfl (Opn.Opn.slice Tryd.underlying22 (by kernel_rfl) (Opn.Opn.int Tryd.underlying3 (by kernel_rfl))) rfl (Opn.OpnF.cons rfl (Opn.Opn.slice Tryd.underlying22 (by kernel_rfl) (Opn.Opn.int Tryd.underlying3 (by kernel_rfl))) rfl (Opn.OpnF.cons rfl (Opn.Opn.int Tryd.underlying23 (by kernel_rfl)) rfl (Opn.OpnF.cons rfl (Opn.Opn.int Tryd.underlying3 (by kernel_rfl)) rfl (Opn.OpnF.cons rfl (Opn.Opn.int Tryd.underlying3 (by kernel_rfl)) rfl (Opn.OpnF.cons rfl (Opn.Opn.int Tryd.underlying3 (by kernel_rfl)) rfl (Opn.OpnF.one rfl (Opn.Opn.int Tryd.underlying23 (by kernel_rfl)))))))))))))))) (hval 0 50 v0 rfl rfl) h0
  obtain ⟨_, _, e0, ⟨A0_0, c0_0, rfl, hc0_0, hr0_0⟩, ⟨A0_1, c0_1, rfl, hc0_1, hr0_1⟩⟩ := hk0
  obtain rfl : cs0 = #[.slice A0_0 l0_0.length c0_0, .slice A0_1 l0_1.length c0_1] := Array.toList_inj.1 (e0.trans rfl)
  clear hA0 hval0 hsz0
  obtain ⟨k, h⟩ := Pure.FnExactQuiet l0_0 l0_1 w0_0 w0_1
  refine (laws_FnExactQuiet.calls k A0_0 c0_0 l0_0 A0_1 c0_1 l0_1 true W hr0_0 hc0_0 hr0_1 hc0_1 h (Laid.tab_of_laid hL)).mono fun e W' ⟨he, bel0⟩ => ?_
  have bel : Below W.heap.size W W' := bel0
  subst he
  exact ⟨_, rfl, _, _, _, [], _, [], hW', trodAll_mk1 (shut_bool Tryd.underlying4 _), (trodAll_cons_mk (Below.trod laidOut (by kernel_rfl) (of_decide_eq_true (by kernel_rfl)) k0 bel lt0) trodAll_mk0), rfl, bel.frame _, fun h => by cases h⟩
theorem over : Rows.fnExactQuietRow.holds Tryd.pinned (OpenSpec.ofChange Rows.fnExactQuietSpec) :=
  OpenClaim.holds_of_wide 7 Tryd.f7 rfl rfl rfl rfl rfl rfl rfl ⟨rfl, rfl, rfl, rfl, rfl⟩ rfl rfl rfl rfl rfl (by kernel_rfl) Tryd.func7 (by kernel_rfl)
    (of_decide_eq_true (by kernel_rfl)) (by unfold Func.isWrapper; first | (rw [if_pos (by decide +kernel)]; kernel_rfl) | (rw [if_neg (by decide +kernel)]; exact ⟨rfl, rfl⟩))
    (fun os started H enc _ => lifted os started H enc)
theorem card : Claim7.holds Tryd.pinned (.plain (OpenSpec.ofChange Rows.fnExactQuietSpec)) Rows.fnExactQuietCard :=
  Claim7.holds_tied_plain_at .later [] [.data] true (true, "00b72d6f363f995a11670f65d5cfbc0d47a47563b42b0e5cc807aa7544c10e7c") false
    over (fun _ h => by cases h) (by kernel_rfl) (fun _ h => by cases h) fnExactQuiet_row_tie rfl ⟨rfl, rfl⟩ (by kernel_rfl) rfl
    (fun f fn hf hfn => by
      obtain rfl : f = 7 := Option.some.inj ((show Tryd.prog.funcNamed "loop.example/g00709/laws.FnExactQuiet" = some 7 by kernel_rfl).symm.trans hf) |>.symm
      obtain rfl : fn = Tryd.f7 := (Option.some.inj (Tryd.func7.symm.trans hfn)).symm
      exact ⟨by kernel_rfl, fun j t ht => by
        rw [Tryd.params7] at ht
        have hm : t ∈ ([50] : List TypeId) := by simpa using Array.mem_of_getElem? ht
        have hall : (([50] : List TypeId).all fun u => !Tryd.prog.wantsStandIn u) = true := by kernel_rfl
        exact (show Tryd.prog.wantsStandIn t = false by simpa using List.all_eq_true.1 hall t hm)⟩)
    (by kernel_rfl)
theorem proved : Rows.FnExactQuietCardSaid := card
#print axioms proved
end Go.Proofs.YtfhcnnkeokjfpaaDoor.fnExactQuiet
namespace Go.Proofs.YtfhcnnkeokjfpaaDoor
/-- The card, under a short name, for the claim. -/
theorem fnExactQuiet_holds : Rows.FnExactQuietCardSaid := fnExactQuiet.proved
end Go.Proofs.YtfhcnnkeokjfpaaDoor
