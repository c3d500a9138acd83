/- The program's choice of the lowest free bits. Conditions: none. -/
import Derived.Test.YtmnjppfebaeoiaaPC2x2
import Derived.Test.YtmnjppfebaeoiaaPC2x0
set_option linter.unusedVariables false
set_option linter.unusedSimpArgs false
namespace Go.Proofs.Ytmnjppfebaeoiaa.PC2
open Go.RowKit Go.Proofs.YtmnjppfebaeoiaaW.PrintWords Go.Proofs.YtmnjppfebaeoiaaW.PrintLast Go.Proofs.YtmnjppfebaeoiaaW.PrintMore

/-! ### impl_FreeLow: function 92 -/
def impl_FreeLow.f (k : Nat) (a0 : Int) (a1 : Int) (a2 : Int) : Option Int := (impl_within.f a1 0 32).bind fun t => (if t = true then ((impl_MaskOf.f a1).bind fun m => impl_TakeLow.f k (Go.bits .and .u32 (Go.bits .xor .u32 (if IntKind.u32.signed = true then -1 else IntKind.u32.max) a0) m) a2) else some 0)
theorem impl_FreeLow.mono : ∀ a0 a1 a2 k, LeO (impl_FreeLow.f k a0 a1 a2) (impl_FreeLow.f (k + 1) a0 a1 a2) := by
  intro a0 a1 a2 k
  unfold impl_FreeLow.f
  exact LeO.bind (LeO.refl _) (fun _ => LeO.ite (LeO.bind (LeO.refl _) (fun _ => impl_TakeLow.mono _ _ _)) (LeO.refl _))
set_option maxHeartbeats 4000000 in
set_option maxRecDepth 100000 in
theorem impl_FreeLow.calls (k : Nat) (a0 : Int) (a1 : Int) (a2 : Int) (r : Int) (w : World) (h : impl_FreeLow.f k a0 a1 a2 = some r) :
    Calls Try.prog 92 #[.int .u32 a0, .int .i64 a1, .int .i64 a2] w fun e w' => e = .returned (.int .u32 r) ∧ Below w.heap.size w w' := by
  unfold impl_FreeLow.f at h
  have H := Option.bind_eq_some_iff.mp h
  clear h
  obtain ⟨t, ht, h⟩ := H
  have C1 := fun W => impl_within.calls a1 0 32 t W ht
  clear ht
  by_cases c1 : t = true
  · rw [if_pos c1] at h
    subst c1
    have H := Option.bind_eq_some_iff.mp h
    clear h
    obtain ⟨m, hm, h⟩ := H
    have C2 := fun W => impl_MaskOf.calls a1 m W hm
    have C3 := fun W => impl_TakeLow.calls k _ a2 r W h
    clear hm h
    go_enter Try.func92, Try.ntmps92
    go_wp2_with (first | (go_at_call 105; refine (C1 _).mono ?_; rintro e w' ⟨rfl, ⟨n1, rfl⟩⟩) | (go_at_call 139; refine (C2 _).mono ?_; rintro e w' ⟨rfl, ⟨n2, rfl⟩⟩) | (go_at_call 138; refine (C3 _).mono ?_; rintro e w' ⟨rfl, ⟨n3, rfl⟩⟩))
    go_ret
    exact ⟨rfl, by repeat (first | exact Below.refl _ _ | apply pw_below_drewN)⟩
  · rw [if_neg c1] at h
    cases h
    replace c1 := Bool.eq_false_iff.mpr c1
    subst c1
    go_enter Try.func92, Try.ntmps92
    go_wp2_with (first | (go_at_call 105; refine (C1 _).mono ?_; rintro e w' ⟨rfl, ⟨n1, rfl⟩⟩))
    go_ret
    exact ⟨rfl, by repeat (first | exact Below.refl _ _ | apply pw_below_drewN)⟩
end Go.Proofs.Ytmnjppfebaeoiaa.PC2
