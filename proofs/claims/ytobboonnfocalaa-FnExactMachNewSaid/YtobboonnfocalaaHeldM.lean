/- The laws' check of the marks in a machine, told of the machine as it was ahead of its marks. Conditions: none. -/
import Derived.Test.YtobboonnfocalaaMarkMach
import Derived.Test.YtobboonnfocalaaPB1x5
import Derived.Test.YtobboonnfocalaaPB1x6
set_option linter.unusedVariables false
set_option linter.unusedSimpArgs false
namespace Go.Proofs.Ytobboonnfocalaa.PB1
open Go.RowKit Go.Proofs.Ytobboonnfocalaa.Base Go.Proofs.Ytobboonnfocalaa.T Go.Proofs.YtobboonnfocalaaW.PrintWords Go.Proofs.YtobboonnfocalaaW.PrintLast Go.Proofs.YtobboonnfocalaaW.PrintMore

/-! ### laws_heldMach: function 9 -/
/-- On a machine whose words and warps are marked from 1 on. -/
def laws_heldMach.f (l0 : List Int) (l1 : List S55) (a1 : Int) : Option Int :=
  (laws_heldMem.f 300 (ups 1 l0.length) a1).bind fun t => if t < 0 then some (-1) else (laws_heldWarpS.f 300 (mkL (1 + (l0.length : Int)) l1) t).bind fun t2 => if t2 < 0 then some (-1) else some t2
set_option maxHeartbeats 4000000 in
set_option maxRecDepth 100000 in
theorem laws_heldMach.calls (A0 : Option Addr) (c0 : Nat) (l0 : List Int) (A1 : Option Addr) (c1 : Nat) (l1 : List S55) (a1 r : Int) (w : World) (hr0 : Kd.C (Kd.int .u32) w A0 (ups 1 l0.length).length (ups 1 l0.length)) (hc0 : l0.length ≤ c0) (hr1 : Kd.C k55 w A1 (mkL (1 + (l0.length : Int)) l1).length (mkL (1 + (l0.length : Int)) l1)) (hc1 : l1.length ≤ c1) (h : laws_heldMach.f l0 l1 a1 = some r) :
    Calls Try.prog 9 #[.agg #[.slice A0 l0.length c0, .slice A1 l1.length c1], .int .i64 a1] w fun e w' => e = .returned (.int .i64 r) ∧ Below w.heap.size w w' := by
  unfold laws_heldMach.f at h
  obtain ⟨t, ht, h⟩ := Option.bind_eq_some_iff.mp h
  have e0 : (ups 1 l0.length).length = l0.length := ups_length _ _
  have e1 : (mkL (1 + (l0.length : Int)) l1).length = l1.length := mkL_length _ _
  have hu1 := Try.underlying27
  have C1 : ∀ W, Below w.heap.size w W → Calls Try.prog 29 #[.agg #[.slice A0 l0.length c0], .int .i64 a1] W fun e w' => e = .returned (.int .i64 t) ∧ Below W.heap.size W w' := fun W hW => by
    have := laws_heldMem.calls 300 A0 c0 (ups 1 l0.length) a1 t W (Kd.C_below hr0 hW) (by rw [e0]; exact hc0) ht
    rw [e0] at this
    exact this.mono (by rintro e w' ⟨rfl, hb⟩; exact ⟨rfl, hb⟩)
  have hB1 : Below w.heap.size w (w.alloc (.cells #[.slice A0 l0.length c0, .slice A1 l1.length c1] 27)) := (Below.refl _ _).alloc (Nat.le_refl _) _
  have hm1 := blk_new w (.cells #[.slice A0 l0.length c0, .slice A1 l1.length c1] 27)
  by_cases c : t < 0
  · rw [if_pos c] at h
    obtain rfl := Option.some.inj h
    have cb : decide (t < 0) = true := decide_eq_true c
    clear ht hr0 hr1 e0 e1 c
    go_enter Try.func9, Try.ntmps9
    go_wp2_with (first | (go_at_call 29; refine (C1 _ hB1).mono ?_; rintro e w2 ⟨rfl, hb2⟩))
    go_ret
    exact ⟨rfl, below_then hB1 hB1.size hb2⟩
  · rw [if_neg c] at h
    obtain ⟨t2, ht2, h⟩ := Option.bind_eq_some_iff.mp h
    have cb : decide (t < 0) = false := decide_eq_false c
    have C2 : ∀ W, Below w.heap.size w W → Calls Try.prog 30 #[.slice A1 l1.length c1, .int .i64 t] W fun e w' => e = .returned (.int .i64 t2) ∧ Below W.heap.size W w' := fun W hW => by
      have := laws_heldWarpS.calls 300 A1 c1 (mkL (1 + (l0.length : Int)) l1) t t2 W (Kd.C_below hr1 hW) (by rw [e1]; exact hc1) ht2
      rw [e1] at this
      exact this.mono (by rintro e w' ⟨rfl, ⟨nd, rfl⟩⟩; exact ⟨rfl, pw_below_drewN (Below.refl _ _) _⟩)
    by_cases c2 : t2 < 0
    · rw [if_pos c2] at h
      obtain rfl := Option.some.inj h
      have cb2 : decide (t2 < 0) = true := decide_eq_true c2
      clear ht ht2 hr0 hr1 e0 e1 c c2
      go_enter Try.func9, Try.ntmps9
      go_wp2_with (first | (go_at_call 29; refine (C1 _ hB1).mono ?_; rintro e w2 ⟨rfl, hb2⟩; have HB := Aside0.mk (below_then hB1 hB1.size hb2); have z1 : w2.cell? ⟨w.heap.size, 1, none⟩ = some (.slice A1 l1.length c1) := (blk_cell (blk_below hm1 hb2) 1).trans rfl) | (go_at_call 30; refine (C2 _ HB.out).mono ?_; rintro e w3 ⟨rfl, hb3⟩))
      go_ret
      exact ⟨rfl, below_then HB.out HB.out.size hb3⟩
    · rw [if_neg c2] at h
      obtain rfl := Option.some.inj h
      have cb2 : decide (t2 < 0) = false := decide_eq_false c2
      clear ht ht2 hr0 hr1 e0 e1 c c2
      go_enter Try.func9, Try.ntmps9
      go_wp2_with (first | (go_at_call 29; refine (C1 _ hB1).mono ?_; rintro e w2 ⟨rfl, hb2⟩; have HB := Aside0.mk (below_then hB1 hB1.size hb2); have z1 : w2.cell? ⟨w.heap.size, 1, none⟩ = some (.slice A1 l1.length c1) := (blk_cell (blk_below hm1 hb2) 1).trans rfl) | (go_at_call 30; refine (C2 _ HB.out).mono ?_; rintro e w3 ⟨rfl, hb3⟩))
      go_ret
      exact ⟨rfl, below_then HB.out HB.out.size hb3⟩
end Go.Proofs.Ytobboonnfocalaa.PB1
