/- FnExactGiveAll: the law's row, out of its pure statement and its walk. Conditions: none. -/
import Derived.Test.YtobboonnfocalaaGreatDoorRows
import Derived.Test.YtobboonnfocalaaGreatDoorPG1x7
import Derived.Test.YtobboonnfocalaaGreatDoorPureFnExactGiveAllG1
import Derived.Test.YtobboonnfocalaaGreatDoorOpnG1
import Derived.Test.YtobboonnfocalaaGreatDoorLaidG1
import Derived.Test.YtobboonnfocalaaGreatDoorCards
import Derived.Test.YtobboonnfocalaaGreatDoorTie
import Derived.SevenTiedAt
import Derived.Handed
import Derived.WalkKit
import Derived.ProofKit
import Derived.OpenShut
import Derived.ShutString
import Derived.ChangeOld
import Derived.Below
import Derived.SizedLaws
namespace Go.Proofs.YtobboonnfocalaaGreatDoor.fnExactGiveAll
open Go.ChangeShapes Go.WideShapes Go.ChangeAt Go.RowKit Go.Proofs.YtobboonnfocalaaGreatDoor.PG1 Go.Proofs.YtobboonnfocalaaGreatDoorW.PrintWords Go.Proofs.YtobboonnfocalaaGreatDoorW.PrintLast
set_option linter.unusedVariables false
theorem own : ownKnob Tryz.prog.godebug = none := by kernel_rfl
theorem laidOut : laidOutB Tryz.prog = true := by kernel_rfl
set_option maxRecDepth 100000 in
theorem lifted (os : Os) (started : os.Started) (H : Type) (enc : TypeId × Value → H) :
    ReturnsInHanded {} Tryz.checked os 3 .any (fun w args => (Rows.fnExactGiveAllSpec.pre enc Tryz.prog Tryz.f3 Rows.fnExactGiveAllRow.domain false w args ∧ laidMetH Tryz.prog Laid.laid w) ∧ sizedMet enc Tryz.prog Tryz.f3 (OpenSpec.ofChange Rows.fnExactGiveAllSpec) false w args) (Rows.fnExactGiveAllSpec.post enc Tryz.prog Tryz.f3 false true false false) := by
  refine returnsInHanded_of_change_and (C := Tryz.checked) (X := fun w _ => laidMetH Tryz.prog Laid.laid w) (fun _ _ _ hh h => h.of_heap hh) own started (by kernel_rfl) Tryz.func3
    (ChangeSpec.witness_at (enc := enc) (C := Tryz.checked) (os := os) (X := fun w _ => laidMetH Tryz.prog Laid.laid w) false (Laid.laidWorld os) #[.agg #[.slice none 0 0, .slice none 0 0], .int .i64 0] 8 rfl (by kernel_rfl) (by kernel_rfl) (by kernel_rfl) (by kernel_rfl) (by kernel_rfl) (Laid.laidWorld_met os _)) ?_
  intro W base args ds gs before hval0 hW hcnd hsz0 hL _
  have hval : ∀ (j : Nat) t v, Tryz.f3.params[j]? = some t → args[j]? = some v → Value.okWide Tryz.prog W .any base t v := hval0
  have hW' := hW
  obtain ⟨p, q, hA0, hV, rfl, hfz, hnd⟩ := hW
  have hA : DataW.TrodAll enc Tryz.prog W 0 (fun _ => true) true Tryz.f3.params.toList args.toList ds p := hA0
  rw [Tryz.params3] at hA hval
  obtain ⟨v0, vs0, d0, ds0, p0, q0, hargs, rfl, rfl, h0, r0⟩ := trodAll_cons hA
  obtain ⟨v1, vs1, d1, ds1, p1, q1, rfl, rfl, rfl, h1, r1⟩ := trodAll_cons r0
  obtain ⟨rfl, rfl, rfl⟩ := trodAll_nil r1
  obtain rfl : args = #[v0, v1] := by cases args; simp_all
  obtain ⟨rfl, rfl⟩ := trodVars_none hV
  have k0 := h0
  have lt0 : ∀ x ∈ p0, x.block < W.heap.size := by obtain ⟨m, hm⟩ := k0; exact DataW.trod_lt m _ _ _ hm
  obtain ⟨cs0, ⟨l0_0, l0_1⟩, rfl, hk0, ⟨w0_0, w0_1⟩⟩ := Opn.struct_arg Tryz.underlying27 (Opn.Opn.struct Tryz.underlying27 (by kernel_rfl) (Opn.OpnF.cons rfl (Opn.Opn.struct Tryz.underlying24 (by kernel_rfl) (Opn.OpnF.one rfl (Opn.Opn.slice Tryz.underlying22 (by kernel_rfl) (Opn.Opn.int Tryz.underlying47 (by kernel_rfl))))) rfl (Opn.OpnF.one rfl (Opn.Opn.slice Tryz.underlying25 (by kernel_rfl) (Opn.Opn.iso (k := (Kd.pair (Kd.int .i64) (Kd.pair (Kd.slice 3 (Kd.int .i64)) (Kd.pair (Kd.slice 3 (Kd.int .i64)) (Kd.pair (Kd.int .u32) (Kd.pair (Kd.int .i64) (Kd.pair (Kd.int .i64) (Kd.pair (Kd.int .i64) (Kd.int .u32))))))))) (f := fun x : S71 => (x.f0, x.f1, x.f2, x.f3, x.f4, x.f5, x.f6, x.f7)) (fun p_ => ⟨p_.1, p_.2.1, p_.2.2.1, p_.2.2.2.1, p_.2.2.2.2.1, p_.2.2.2.2.2.1, p_.2.2.2.2.2.2.1, p_.2.2.2.2.2.2.2⟩) (fun _ => rfl) (Opn.Opn.struct Tryz.underlying71 (by kernel_rfl) (Opn.OpnF.cons rfl (Opn.Opn.int Tryz.underlying3 (by kernel_rfl)) rfl (Opn.OpnF.cons rfl (Opn.Opn.slice Tryz.underlying29 (by kernel_rfl) (Opn.Opn.int Tryz.underlying3 (by kernel_rfl))) rfl (Opn.OpnF.cons rfl (Opn.Opn.slice Tryz.underlying29 (by kernel_rfl) (Opn.Opn.int Tryz.underlying3 (by kernel_rfl))) rfl (Opn.OpnF.cons rfl (Opn.Opn.int Tryz.underlying47 (by kernel_rfl)) rfl (Opn.OpnF.cons rfl (Opn.Opn.int Tryz.underlying3 (by kernel_rfl)) rfl (Opn.OpnF.cons rfl (Opn.Opn.int Tryz.underlying3 (by kernel_rfl)) rfl (Opn.OpnF.cons rfl (Opn.Opn.int Tryz.underlying3 (by kernel_rfl)) rfl (Opn.OpnF.one rfl (Opn.Opn.int Tryz.underlying47 (by kernel_rfl)))))))))))))))) (hval 0 27 v0 rfl rfl) h0
  obtain ⟨_, _, e0, ⟨A0_0, c0_0, rfl, hc0_0, hr0_0⟩, ⟨A0_1, c0_1, rfl, hc0_1, hr0_1⟩⟩ := hk0
  obtain rfl : cs0 = #[.slice A0_0 l0_0.length c0_0, .slice A0_1 l0_1.length c0_1] := Array.toList_inj.1 (e0.trans rfl)
  have k1 := h1
  have lt1 : ∀ x ∈ p1, x.block < W.heap.size := by obtain ⟨m, hm⟩ := k1; exact DataW.trod_lt m _ _ _ hm
  obtain ⟨a1, rfl, rfl, rfl, w1⟩ := open_int Tryz.underlying3 (hval 1 3 v1 rfl rfl) h1
  clear hA0 hval0 hsz0
  obtain ⟨k, h⟩ := Pure.FnExactGiveAll l0_0 l0_1 a1 w0_0 w0_1 w1
  refine (laws_FnExactGiveAll.calls k A0_0 c0_0 l0_0 A0_1 c0_1 l0_1 a1 true W hr0_0 hc0_0 hr0_1 hc0_1 h (Laid.tab_of_laid hL)).mono fun e W' ⟨he, bel0⟩ => ?_
  have bel : Below W.heap.size W W' := bel0
  subst he
  exact ⟨_, rfl, _, _, _, [], _, [], hW', trodAll_mk1 (shut_bool Tryz.underlying4 _), (trodAll_cons_mk (Below.trod laidOut (by kernel_rfl) (of_decide_eq_true (by kernel_rfl)) k0 bel lt0) (trodAll_cons_mk (Below.trod laidOut (by kernel_rfl) (of_decide_eq_true (by kernel_rfl)) k1 bel lt1) trodAll_mk0)), rfl, bel.frame _, fun h => by cases h⟩
theorem over : Rows.fnExactGiveAllRow.holds Tryz.pinned (OpenSpec.ofChange Rows.fnExactGiveAllSpec) :=
  OpenClaim.holds_of_wide 3 Tryz.f3 rfl rfl rfl rfl rfl rfl rfl ⟨rfl, rfl, rfl, rfl, rfl⟩ rfl rfl rfl rfl rfl (by kernel_rfl) Tryz.func3 (by kernel_rfl)
    (of_decide_eq_true (by kernel_rfl)) (by unfold Func.isWrapper; first | (rw [if_pos (by decide +kernel)]; kernel_rfl) | (rw [if_neg (by decide +kernel)]; exact ⟨rfl, rfl⟩))
    (fun os started H enc _ => lifted os started H enc)
theorem card : Claim7.holds Tryz.pinned (.plain (OpenSpec.ofChange Rows.fnExactGiveAllSpec)) Rows.fnExactGiveAllCard :=
  Claim7.holds_tied_plain_at .later [] [.data] true (true, "d03195bd9bf010518b5fd47f79c234c99e74cf575048f43897e46f26d234cca4") false
    over (fun _ h => by cases h) (by kernel_rfl) (fun _ h => by cases h) fnExactGiveAll_row_tie rfl ⟨rfl, rfl⟩ (by kernel_rfl) rfl
    (fun f fn hf hfn => by
      obtain rfl : f = 3 := Option.some.inj ((show Tryz.prog.funcNamed "loop.example/g00709/laws.FnExactGiveAll" = some 3 by kernel_rfl).symm.trans hf) |>.symm
      obtain rfl : fn = Tryz.f3 := (Option.some.inj (Tryz.func3.symm.trans hfn)).symm
      exact ⟨by kernel_rfl, fun j t ht => by
        rw [Tryz.params3] at ht
        have hm : t ∈ ([27, 3] : List TypeId) := by simpa using Array.mem_of_getElem? ht
        have hall : (([27, 3] : List TypeId).all fun u => !Tryz.prog.wantsStandIn u) = true := by kernel_rfl
        exact (show Tryz.prog.wantsStandIn t = false by simpa using List.all_eq_true.1 hall t hm)⟩)
    (by kernel_rfl)
theorem proved : Rows.FnExactGiveAllCardSaid := card
#print axioms proved
end Go.Proofs.YtobboonnfocalaaGreatDoor.fnExactGiveAll
namespace Go.Proofs.YtobboonnfocalaaGreatDoor
/-- The card, under a short name, for the claim. -/
theorem fnExactGiveAll_holds : Rows.FnExactGiveAllCardSaid := fnExactGiveAll.proved
end Go.Proofs.YtobboonnfocalaaGreatDoor
