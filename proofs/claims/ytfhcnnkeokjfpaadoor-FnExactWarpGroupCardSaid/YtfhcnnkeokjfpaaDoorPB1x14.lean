/- What functions of the program compute, each as a Lean function, and that the run comes to just that. Conditions: none. (Laid by this session's own program.) -/
import Derived.Test.YtfhcnnkeokjfpaaDoorT
import Derived.Test.YtfhcnnkeokjfpaaDoorPB1x0
import Derived.Test.YtfhcnnkeokjfpaaDoorLow
namespace Go.Proofs.YtfhcnnkeokjfpaaDoor.PB1
open Go.RowKit Go.Proofs.YtfhcnnkeokjfpaaDoorW.PrintWords Go.Proofs.YtfhcnnkeokjfpaaDoorW.PrintLast Go.Proofs.YtfhcnnkeokjfpaaDoorW.PrintMore Go.Proofs.YtfhcnnkeokjfpaaDoor.T
attribute [local go_sem] max2_int min2_int max_two min_two max_three min_three max_four min_four   -- for this text's walks alone
set_option linter.unusedVariables false
set_option linter.unusedSimpArgs false

/-! ### impl_Warp_lead: function 82 -/
def impl_Warp_lead.f (a0_0 : Int) (l0_1 : List Int) (l0_2 : List Int) (a0_3 : Int) (a0_4 : Int) (a0_5 : Int) (a0_6 : Int) (a0_7 : Int) : Option (Int) := (impl_Lowest.f a0_3).bind fun t254 => (if 0 ≤ t254 then (if t254 < (l0_1.length : Int) then (some (rd l0_1 t254)) else (none)) else (none))
def impl_Warp_lead.T1 : Bool × List (List Nat × List Nat) := (true, [([], []), ([0], [0]), ([], []), ([2], [2]), ([3], [3]), ([1, 4], [1, 4]), ([5], [5]), ([6, 4, 0, 1, 2, 3, 4, 5, 6], [6])])
def impl_Warp_lead.B1 : List Nat := [0, 1, 0, 4, 12, 31, 63, 127]
theorem impl_Warp_lead.tab1 : rtab .any (opsOf Tryd.f82 1) = impl_Warp_lead.T1 := kr
theorem impl_Warp_lead.bits1 : waitsOk impl_Warp_lead.T1.2 impl_Warp_lead.B1 = true := kr
set_option maxHeartbeats 2000000 in
set_option maxRecDepth 100000 in
theorem impl_Warp_lead.calls (a0_0 : Int) (A0_1 : Option Addr) (c0_1 : Nat) (l0_1 : List Int) (A0_2 : Option Addr) (c0_2 : Nat) (l0_2 : List Int) (a0_3 : Int) (a0_4 : Int) (a0_5 : Int) (a0_6 : Int) (a0_7 : Int) (r : Int) (w : World) (hr0_1 : Kd.C (Kd.int .i64) w A0_1 l0_1.length l0_1) (hc0_1 : l0_1.length ≤ c0_1) (hr0_2 : Kd.C (Kd.int .i64) w A0_2 l0_2.length l0_2) (hc0_2 : l0_2.length ≤ c0_2) (h : impl_Warp_lead.f a0_0 l0_1 l0_2 a0_3 a0_4 a0_5 a0_6 a0_7 = some r) (hT : GT w) :
    Calls Tryd.prog 82 #[.agg #[.int .i64 a0_0, .slice A0_1 l0_1.length c0_1, .slice A0_2 l0_2.length c0_2, .int .u32 a0_3, .int .i64 a0_4, .int .i64 a0_5, .int .i64 a0_6, .int .u32 a0_7]] w fun e w' => e = .returned (.int .i64 r) ∧ Below w.heap.size w w' := by
  have hu28 := Tryd.underlying28
  have HR0_1 := Aside0.mk hr0_1
  have HC0_1 := Aside0.mk hc0_1
  clear hr0_1 hc0_1
  have HR0_2 := Aside0.mk hr0_2
  have HC0_2 := Aside0.mk hc0_2
  clear hr0_2 hc0_2
  have HB := Aside0.mk (Below.refl w.heap.size w)
  unfold impl_Warp_lead.f at h
  have H := h
  clear h
  replace H := bn H
  obtain ⟨t254, A2, H⟩ := H
  try dsimp only at H
  by_cases c3 : 0 ≤ t254
  · rw [if_pos c3] at H
    have c3b0 : decide (0 ≤ t254) = true := decide_eq_true c3
    clear c3
    by_cases c4 : t254 < (l0_1.length : Int)
    · rw [if_pos c4] at H
      have c4b0 : decide (t254 < (l0_1.length : Int)) = true := decide_eq_true c4
      clear c4
      obtain rfl := Option.some.inj H
      go_enter Tryd.func82, Tryd.ntmps82
      try go_wp2_with (first | ((with_reducible refine gd 1 ?_); refine bx 1 28 #[.int .i64 a0_0, .slice A0_1 l0_1.length c0_1, .slice A0_2 l0_2.length c0_2, .int .u32 a0_3, .int .i64 a0_4, .int .i64 a0_5, .int .i64 a0_6, .int .u32 a0_7] ?_; clear HB; intro gb253 w5 hg BK253 hb GE253 HB; clear hb hg))
      replace BK253 := bd BK253
      replace HB := hd HB
      obtain ⟨ad255, e255, hw255_0, hx255_0, p255, q255⟩ := ri HR0_1 HB t254
      cases e255
      refine st 8 (fun w' => CA w' gb253 0 [.int .i64 a0_0, .slice (some ad255) l0_1.length c0_1, .slice A0_2 l0_2.length c0_2, .int .u32 a0_3, .int .i64 a0_4, .int .i64 a0_5, .int .i64 a0_6, .int .u32 a0_7] ∧ w'.cell? (ad255.add (t254).toNat) = some (.int .i64 (rd l0_1 t254))) [] ⟨cx BK253, cl HB hw255_0⟩ impl_Warp_lead.tab1 impl_Warp_lead.bits1 ?_; intro hHeld HT_ HW_
      generalize w5.drew = w6 at BK253 HB hx255_0 hHeld ⊢
      refine pu 0 3 (bl 8 1) ?_
      refine pu 2 5 (bl 8 5) ?_
      refine tk 1 4 (bl 8 7) ?_
      refine tk 3 6 (bl 8 15) ?_
      refine on_ 4 (some 7) (bl 8 31) (fun K hK => ?_)
      refine gq Tryd.func106 (impl_Lowest.calls _ _ _ A2.out (hT.below bw)) ?_
      rintro e w7 ⟨rfl, hb⟩
      refine ⟨_, rfl, ?_⟩
      replace BK253 := b_ BK253 hb
      replace HB := hs hb
      (try clear hb)
      refine hK.out _ _ ⟨cx BK253, cl HB hw255_0⟩ (fun hHeld => ?_)
      clear hK K
      refine nm ?_
      refine pu 5 8 (bl 8 63) ?_
      refine tk 6 9 (bl 8 127) ?_
      refine pu 7 2 (bl 8 255) ?_
      refine dn ?_ _
      try go_wp2
      go_ret
      exact ⟨rt, bw⟩
    · rw [if_neg c4] at H
      exact absurd H (by simp)
  · rw [if_neg c3] at H
    exact absurd H (by simp)

end Go.Proofs.YtfhcnnkeokjfpaaDoor.PB1
