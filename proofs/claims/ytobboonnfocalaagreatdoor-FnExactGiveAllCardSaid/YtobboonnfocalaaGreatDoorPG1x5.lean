/- What functions of the program compute, each as a Lean function, and that the run comes to just that. Conditions: none. -/
import Derived.Test.YtobboonnfocalaaGreatDoorTG1
import Derived.Test.YtobboonnfocalaaGreatDoorPG1x0
import Derived.Test.YtobboonnfocalaaGreatDoorLowG1
import Derived.Test.YtobboonnfocalaaGreatDoorPG1x3
import Derived.Test.YtobboonnfocalaaGreatDoorPG1x4
namespace Go.Proofs.YtobboonnfocalaaGreatDoor.PG1
open Go.RowKit Go.Proofs.YtobboonnfocalaaGreatDoorW.PrintWords Go.Proofs.YtobboonnfocalaaGreatDoorW.PrintLast Go.Proofs.YtobboonnfocalaaGreatDoorW.PrintMore Go.Proofs.YtobboonnfocalaaGreatDoor.T
attribute [local go_sem] max2_int min2_int max_two min_two max_three min_three max_four min_four   -- for this text's walks alone
set_option linter.unusedVariables false
set_option linter.unusedSimpArgs false

/-! ### impl_Warp_lead: function 92 -/
def impl_Warp_lead.f (a0_0 : Int) (l0_1 : List Int) (l0_2 : List Int) (a0_3 : Int) (a0_4 : Int) (a0_5 : Int) (a0_6 : Int) (a0_7 : Int) : Option (Int) := (impl_Lowest.f a0_3).bind fun t513 => (if 0 ≤ t513 then (if t513 < (l0_1.length : Int) then (some (rd l0_1 t513)) else (none)) else (none))
def impl_Warp_lead.T1 : Bool × List (List Nat × List Nat) := (true, [([], []), ([0], [0]), ([], []), ([2], [2]), ([3], [3]), ([1, 4], [1, 4]), ([5], [5]), ([6, 4, 0, 1, 2, 3, 4, 5, 6], [6])])
def impl_Warp_lead.B1 : List Nat := [0, 1, 0, 4, 12, 31, 63, 127]
theorem impl_Warp_lead.tab1 : rtab .any (opsOf Tryz.f92 1) = impl_Warp_lead.T1 := kr
theorem impl_Warp_lead.bits1 : waitsOk impl_Warp_lead.T1.2 impl_Warp_lead.B1 = true := kr
set_option maxHeartbeats 2000000 in
set_option maxRecDepth 100000 in
theorem impl_Warp_lead.calls (a0_0 : Int) (A0_1 : Option Addr) (c0_1 : Nat) (l0_1 : List Int) (A0_2 : Option Addr) (c0_2 : Nat) (l0_2 : List Int) (a0_3 : Int) (a0_4 : Int) (a0_5 : Int) (a0_6 : Int) (a0_7 : Int) (r : Int) (w : World) (hr0_1 : Kd.C (Kd.int .i64) w A0_1 l0_1.length l0_1) (hc0_1 : l0_1.length ≤ c0_1) (hr0_2 : Kd.C (Kd.int .i64) w A0_2 l0_2.length l0_2) (hc0_2 : l0_2.length ≤ c0_2) (h : impl_Warp_lead.f a0_0 l0_1 l0_2 a0_3 a0_4 a0_5 a0_6 a0_7 = some r) (hT : GT w) :
  Calls Tryz.prog 92 #[.agg #[.int .i64 a0_0, .slice A0_1 l0_1.length c0_1, .slice A0_2 l0_2.length c0_2, .int .u32 a0_3, .int .i64 a0_4, .int .i64 a0_5, .int .i64 a0_6, .int .u32 a0_7]] w fun e w' => e = .returned (.int .i64 r) ∧ Below w.heap.size w w' := by
 have hu49 := Tryz.underlying49
 have HR0_1 := Aside0.mk hr0_1
 have HC0_1 := Aside0.mk hc0_1
 clear hr0_1 hc0_1
 have HR0_2 := Aside0.mk hr0_2
 have HC0_2 := Aside0.mk hc0_2
 clear hr0_2 hc0_2
 have HB := Aside0.mk (Below.refl w.heap.size w)
 unfold impl_Warp_lead.f at h
 have H := h
 clear h
 replace H := bn H
 obtain ⟨t513, A2, H⟩ := H
 try dsimp only at H
 by_cases c3 : 0 ≤ t513
 ·rw [if_pos c3] at H
  have c3b0 : decide (0 ≤ t513) = true := decide_eq_true c3
  clear c3
  by_cases c4 : t513 < (l0_1.length : Int)
  ·rw [if_pos c4] at H
   have c4b0 : decide (t513 < (l0_1.length : Int)) = true := decide_eq_true c4
   clear c4
   obtain rfl := Option.some.inj H
   go_enter Tryz.func92, Tryz.ntmps92
   try go_wp2_with (first | ((with_reducible refine gd 1 ?_); refine bx 1 49 #[.int .i64 a0_0, .slice A0_1 l0_1.length c0_1, .slice A0_2 l0_2.length c0_2, .int .u32 a0_3, .int .i64 a0_4, .int .i64 a0_5, .int .i64 a0_6, .int .u32 a0_7] ?_; clear HB; intro gb512 w5 hg BK512 hb GE512 HB; clear hb hg))
   replace BK512 := bd BK512
   replace HB := hd HB
   obtain ⟨ad514, e514, hw514_0, hx514_0, p514, q514⟩ := ri HR0_1 HB t513
   cases e514
   refine st 8 (fun w' => CA w' gb512 0 [.int .i64 a0_0, .slice (some ad514) l0_1.length c0_1, .slice A0_2 l0_2.length c0_2, .int .u32 a0_3, .int .i64 a0_4, .int .i64 a0_5, .int .i64 a0_6, .int .u32 a0_7] ∧ w'.cell? (ad514.add (t513).toNat) = some (.int .i64 (rd l0_1 t513))) [] ⟨cx BK512, (cl HB hw514_0 :)⟩ impl_Warp_lead.tab1 impl_Warp_lead.bits1 ?_; intro hHeld HT_ HW_
   generalize w5.drew = w6 at BK512 HB hx514_0 hHeld ⊢
   refine pu 0 3 (bl 8 1) ?_
   refine pu 2 5 (bl 8 5) ?_
   refine tk 1 4 (bl 8 7) ?_
   refine tk 3 6 (bl 8 15) ?_
   refine on_ 4 (some 7) (bl 8 31) (fun K hK => ?_)
   refine gq Tryz.func102 (impl_Lowest.calls _ _ _ A2.out (hT.below bw)) ?_
   rintro e w7 ⟨rfl, hb⟩
   refine ⟨_, rfl, ?_⟩
   replace BK512 := b_ BK512 hb
   replace HB := hs hb
   (try clear hb)
   refine hK.out _ _ ⟨cx BK512, (cl HB hw514_0 :)⟩ (fun hHeld => ?_)
   clear hK K
   refine nm ?_
   refine pu 5 8 (bl 8 63) ?_
   refine tk 6 9 (bl 8 127) ?_
   refine pu 7 2 (bl 8 255) ?_
   refine dn ?_ _
   try go_wp2
   go_ret
   exact ⟨rt, bw⟩
  ·rw [if_neg c4] at H
   exact absurd H (by simp)
 ·rw [if_neg c3] at H
  exact absurd H (by simp)

end Go.Proofs.YtobboonnfocalaaGreatDoor.PG1
namespace Go.Proofs.YtobboonnfocalaaGreatDoor.PG1
open Go.RowKit Go.Proofs.YtobboonnfocalaaGreatDoorW.PrintWords Go.Proofs.YtobboonnfocalaaGreatDoorW.PrintLast Go.Proofs.YtobboonnfocalaaGreatDoorW.PrintMore Go.Proofs.YtobboonnfocalaaGreatDoor.T
attribute [local go_sem] max2_int min2_int max_two min_two max_three min_three max_four min_four   -- for this text's walks alone
set_option linter.unusedVariables false
set_option linter.unusedSimpArgs false

/-! ### impl_isGiving: function 75 -/
def impl_isGiving.f (k : Nat) (a0_0 : Int) (l0_1 : List Int) (l0_2 : List Int) (a0_3 : Int) (a0_4 : Int) (a0_5 : Int) (a0_6 : Int) (a0_7 : Int) (a1 : Int) : Option (Bool) := if a0_4 = 0 then (if a0_5 = 0 then (if a0_6 = 0 then (some (a0_7 == 0)) else (some false)) else (some false)) else (if a0_4 = 1 then (if a0_5 = 0 then (if a0_6 = 0 then ((impl_Warp_lead.f a0_0 l0_1 l0_2 a0_3 a0_4 a0_5 a0_6 a0_7).bind fun t525 => (if t525 < (wrap64 (16 * a1)) then ((impl_Warp_lead.f a0_0 l0_1 l0_2 a0_3 a0_4 a0_5 a0_6 a0_7).bind fun t526 => ((impl_mayGive.f k a0_7 (Int.tmod t526 16)).bind fun t527 => (some t527))) else (some false))) else (some false)) else (some false)) else (if a0_4 = 2 then ((impl_within.f a0_6 1 a1).bind fun t528 => (if t528 = true then (if a0_5 ≤ (wrap64 (a1 - a0_6)) then (some (a0_7 == 0)) else (some false)) else (some false))) else (some false)))
theorem impl_isGiving.mono : ∀ a0 a1 a2 a3 a4 a5 a6 a7 a8 k, LeO (impl_isGiving.f k a0 a1 a2 a3 a4 a5 a6 a7 a8) (impl_isGiving.f (k + 1) a0 a1 a2 a3 a4 a5 a6 a7 a8) := by
 intro a0 a1 a2 a3 a4 a5 a6 a7 a8 k
 unfold impl_isGiving.f
 repeat' first
  | (with_reducible first | exact impl_mayGive.mono .. | exact LeO.refl _ | exact LeO.none _ | refine LeO.ite ?_ ?_ | refine LeO.bind ?_ (fun _ => ?_))
  | exact LeO.none _ | refine LeO.ite ?_ ?_ | refine LeO.bind ?_ (fun _ => ?_)
def impl_isGiving.T5 : Bool × List (List Nat × List Nat) := (true, [([], []), ([0], [0]), ([1], [1]), ([2], [2]), ([3], [3]), ([4, 3], [3, 4]), ([5, 3], [3, 5]), ([3, 6], [3, 6]), ([7, 3], [7]), ([8], [8]), ([9, 8, 8], [8, 9]), ([8], [8]), ([11, 8], [8, 11]), ([10, 12, 8], [8, 10, 12]), ([8, 13], [8, 13]), ([14, 10], [14]), ([15], [15]), ([16, 15], [15, 16]), ([15], [15]), ([18, 15, 15], [15, 18]), ([19, 15], [15, 19]), ([17, 20, 19, 15], [15, 17, 20]), ([15, 21], [15, 21]), ([22, 21, 0, 1, 2, 3, 4, 5, 6, 7, 8, 9, 10, 11, 12, 13, 14, 15, 16, 17, 18, 19, 20, 21, 22], [22])])
def impl_isGiving.B5 : List Nat := [0, 1, 3, 7, 15, 31, 63, 127, 255, 511, 1023, 511, 2559, 8191, 16383, 32767, 65535, 131071, 65535, 327679, 851967, 2097151, 4194303, 8388607]
theorem impl_isGiving.tab5 : rtab .any (opsOf Tryz.f75 5) = impl_isGiving.T5 := kr
theorem impl_isGiving.bits5 : waitsOk impl_isGiving.T5.2 impl_isGiving.B5 = true := kr
set_option maxHeartbeats 2000000 in
set_option maxRecDepth 100000 in
theorem impl_isGiving.calls (k : Nat) (a0_0 : Int) (A0_1 : Option Addr) (c0_1 : Nat) (l0_1 : List Int) (A0_2 : Option Addr) (c0_2 : Nat) (l0_2 : List Int) (a0_3 : Int) (a0_4 : Int) (a0_5 : Int) (a0_6 : Int) (a0_7 : Int) (a1 : Int) (r : Bool) (w : World) (hr0_1 : Kd.C (Kd.int .i64) w A0_1 l0_1.length l0_1) (hc0_1 : l0_1.length ≤ c0_1) (hr0_2 : Kd.C (Kd.int .i64) w A0_2 l0_2.length l0_2) (hc0_2 : l0_2.length ≤ c0_2) (h : impl_isGiving.f k a0_0 l0_1 l0_2 a0_3 a0_4 a0_5 a0_6 a0_7 a1 = some r) (hT : GT w) :
  Calls Tryz.prog 75 #[.agg #[.int .i64 a0_0, .slice A0_1 l0_1.length c0_1, .slice A0_2 l0_2.length c0_2, .int .u32 a0_3, .int .i64 a0_4, .int .i64 a0_5, .int .i64 a0_6, .int .u32 a0_7], .int .i64 a1] w fun e w' => e = .returned (.bool r) ∧ Below w.heap.size w w' := by
 have hu49 := Tryz.underlying49
 have HR0_1 := Aside0.mk hr0_1
 have HC0_1 := Aside0.mk hc0_1
 clear hr0_1 hc0_1
 have HR0_2 := Aside0.mk hr0_2
 have HC0_2 := Aside0.mk hc0_2
 clear hr0_2 hc0_2
 have HB := Aside0.mk (Below.refl w.heap.size w)
 unfold impl_isGiving.f at h
 have H := h
 clear h
 have HU3 := Aside0.mk H
 clear H
 go_enter Tryz.func75, Tryz.ntmps75
 go_upto_if 7 with (first | ((with_reducible refine gd 2 ?_); refine bx 2 49 #[.int .i64 a0_0, .slice A0_1 l0_1.length c0_1, .slice A0_2 l0_2.length c0_2, .int .u32 a0_3, .int .i64 a0_4, .int .i64 a0_5, .int .i64 a0_6, .int .u32 a0_7] ?_; clear HB; intro gb524 w4 hg BK524 hb GE524 HB; clear hb hg; obtain ⟨z5_0, z5_1, z5_2, z5_3, z5_4, z5_5, z5_6, z5_7⟩ := ca8 BK524; obtain ⟨f5_0, f5_1, f5_2, f5_3, f5_4, f5_5, f5_6, f5_7⟩ := fa8 BK524))
 (try refine ap ?_)
 have H := HU3.out
 clear HU3
 replace H := ieq H
 rcases H with ⟨c6b0, c6b1, H⟩ | ⟨c6, c6b0, c6b1, H⟩
 ·(first | rw [c6b0] | (simp only [i64_w, i32_w]; rw [c6b0]) | (simp only [c6b2, Bool.not_true, Bool.not_false]) | (simp only [c6b1, Bool.not_true, Bool.not_false]) | skip)
  replace H := ieq H
  rcases H with ⟨c7b0, c7b1, H⟩ | ⟨c7, c7b0, c7b1, H⟩
  ·replace H := ieq H
   rcases H with ⟨c8b0, c8b1, H⟩ | ⟨c8, c8b0, c8b1, H⟩
   ·obtain rfl := Option.some.inj H
    obtain ⟨z9_0, z9_1, z9_2, z9_3, z9_4, z9_5, z9_6, z9_7⟩ := ca8 BK524
    obtain ⟨f9_0, f9_1, f9_2, f9_3, f9_4, f9_5, f9_6, f9_7⟩ := fa8 BK524
    go_wp2
    go_ret
    exact ⟨rt, bw⟩
   ·obtain rfl := Option.some.inj H
    obtain ⟨z10_0, z10_1, z10_2, z10_3, z10_4, z10_5, z10_6, z10_7⟩ := ca8 BK524
    obtain ⟨f10_0, f10_1, f10_2, f10_3, f10_4, f10_5, f10_6, f10_7⟩ := fa8 BK524
    go_wp2
    go_ret
    exact ⟨rt, bw⟩
  ·obtain rfl := Option.some.inj H
   obtain ⟨z11_0, z11_1, z11_2, z11_3, z11_4, z11_5, z11_6, z11_7⟩ := ca8 BK524
   obtain ⟨f11_0, f11_1, f11_2, f11_3, f11_4, f11_5, f11_6, f11_7⟩ := fa8 BK524
   go_wp2
   go_ret
   exact ⟨rt, bw⟩
 ·(first | rw [c6b0] | (simp only [i64_w, i32_w]; rw [c6b0]) | (simp only [c6b2, Bool.not_true, Bool.not_false]) | (simp only [c6b1, Bool.not_true, Bool.not_false]) | skip)
  replace H := ieq H
  rcases H with ⟨c12b0, c12b1, H⟩ | ⟨c12, c12b0, c12b1, H⟩
  ·replace H := ieq H
   rcases H with ⟨c13b0, c13b1, H⟩ | ⟨c13, c13b0, c13b1, H⟩
   ·replace H := ieq H
    rcases H with ⟨c14b0, c14b1, H⟩ | ⟨c14, c14b0, c14b1, H⟩
    ·replace H := bn H
     obtain ⟨t525, A15, H⟩ := H
     try dsimp only at H
     replace H := ilt H
     rcases H with ⟨c16b0, H⟩ | ⟨c16b0, H⟩
     ·replace H := bn H
      obtain ⟨t526, A17, H⟩ := H
      try dsimp only at H
      replace H := bn H
      obtain ⟨t527, A18, H⟩ := H
      try dsimp only at H
      obtain rfl := Option.some.inj H
      try go_wp2
      replace BK524 := bd BK524
      replace HB := hd HB
      refine st 24 (fun w' => CA w' gb524 0 [.int .i64 a0_0, .slice A0_1 l0_1.length c0_1, .slice A0_2 l0_2.length c0_2, .int .u32 a0_3, .int .i64 a0_4, .int .i64 a0_5, .int .i64 a0_6, .int .u32 a0_7]) [] (cx BK524) impl_isGiving.tab5 impl_isGiving.bits5 ?_; intro hHeld HT_ HW_
      generalize w4.drew = w19 at BK524 HB hHeld ⊢
      refine pu 0 24 (bl 24 1) ?_
      refine tk 1 25 (bl 24 3) ?_
      refine pu 2 26 (bl 24 7) ?_
      refine pu 3 27 (bl 24 15) ?_
      refine pu 4 28 (bl 24 31) ?_
      refine tk 5 29 (bl 24 63) ?_
      refine pu 6 30 (bl 24 127) ?_
      refine pu 7 31 (bl 24 255) ?_
      refine pu 8 32 (bl 24 511) ?_
      refine pu 11 35 (bl 24 2559) ?_
      refine pu 12 36 (bl 24 6655) ?_
      refine tk 9 33 (bl 24 7167) ?_
      refine on_ 10 (some 34) (bl 24 8191) (fun K hK => ?_)
      refine gq Tryz.func92 (impl_Warp_lead.calls _ A0_1 c0_1 _ A0_2 c0_2 _ _ _ _ _ _ _ _ (cb HR0_1) HC0_1.out (cb HR0_2) HC0_2.out A15.out (hT.below bw)) ?_
      rintro e w20 ⟨rfl, hb⟩
      refine ⟨_, rfl, ?_⟩
      replace BK524 := b_ BK524 hb
      replace HB := hs hb
      (try clear hb)
      refine hK.out _ _ (cx BK524) (fun hHeld => ?_)
      clear hK K
      refine nm ?_
      refine pu 13 37 (bl 24 16383) ?_
      refine pu 14 38 (bl 24 32767) ?_
      refine pu 15 39 (bl 24 65535) ?_
      refine pu 16 40 (bl 24 131071) ?_
      refine tk 17 41 (bl 24 262143) ?_
      refine tk 18 42 (bl 24 524287) ?_
      refine on_ 19 (some 43) (bl 24 1048575) (fun K hK => ?_)
      refine gq Tryz.func92 (impl_Warp_lead.calls _ A0_1 c0_1 _ A0_2 c0_2 _ _ _ _ _ _ _ _ (cb HR0_1) HC0_1.out (cb HR0_2) HC0_2.out A17.out (hT.below bw)) ?_
      rintro e w21 ⟨rfl, hb⟩
      refine ⟨_, rfl, ?_⟩
      replace BK524 := b_ BK524 hb
      replace HB := hs hb
      (try clear hb)
      refine hK.out _ _ (cx BK524) (fun hHeld => ?_)
      clear hK K
      refine nm ?_
      refine pu 20 44 (bl 24 2097151) ?_
      refine on_ 21 (some 45) (bl 24 4194303) (fun K hK => ?_)
      refine gq Tryz.func93 (impl_mayGive.calls _ _ _ _ _ A18.out) ?_
      rintro e w22 ⟨rfl, hb⟩
      refine ⟨_, rfl, ?_⟩
      replace BK524 := b_ BK524 hb
      replace HB := hs hb
      (try clear hb)
      refine hK.out _ _ (cx BK524) (fun hHeld => ?_)
      clear hK K
      refine nm ?_
      refine pu 22 46 (bl 24 8388607) ?_
      refine pu 23 4 (bl 24 16777215) ?_
      refine dn ?_ _
      try go_wp2
      go_ret
      exact ⟨rt, bw⟩
     ·obtain rfl := Option.some.inj H
      try go_wp2
      replace BK524 := bd BK524
      replace HB := hd HB
      refine st 24 (fun w' => CA w' gb524 0 [.int .i64 a0_0, .slice A0_1 l0_1.length c0_1, .slice A0_2 l0_2.length c0_2, .int .u32 a0_3, .int .i64 a0_4, .int .i64 a0_5, .int .i64 a0_6, .int .u32 a0_7]) [] (cx BK524) impl_isGiving.tab5 impl_isGiving.bits5 ?_; intro hHeld HT_ HW_
      generalize w4.drew = w23 at BK524 HB hHeld ⊢
      refine pu 0 24 (bl 24 1) ?_
      refine tk 1 25 (bl 24 3) ?_
      refine pu 2 26 (bl 24 7) ?_
      refine pu 3 27 (bl 24 15) ?_
      refine pu 4 28 (bl 24 31) ?_
      refine tk 5 29 (bl 24 63) ?_
      refine pu 6 30 (bl 24 127) ?_
      refine pu 7 31 (bl 24 255) ?_
      refine pu 8 32 (bl 24 511) ?_
      refine pu 11 35 (bl 24 2559) ?_
      refine pu 12 36 (bl 24 6655) ?_
      refine tk 9 33 (bl 24 7167) ?_
      refine on_ 10 (some 34) (bl 24 8191) (fun K hK => ?_)
      refine gq Tryz.func92 (impl_Warp_lead.calls _ A0_1 c0_1 _ A0_2 c0_2 _ _ _ _ _ _ _ _ (cb HR0_1) HC0_1.out (cb HR0_2) HC0_2.out A15.out (hT.below bw)) ?_
      rintro e w24 ⟨rfl, hb⟩
      refine ⟨_, rfl, ?_⟩
      replace BK524 := b_ BK524 hb
      replace HB := hs hb
      (try clear hb)
      refine hK.out _ _ (cx BK524) (fun hHeld => ?_)
      clear hK K
      refine nm ?_
      refine pu 13 37 (bl 24 16383) ?_
      refine pu 14 38 (bl 24 32767) ?_
      refine pu 15 39 (bl 24 65535) ?_
      refine pf 16 40 (bl 24 131071) ?_
      refine pf 17 41 (bl 24 262143) ?_
      refine pf 18 42 (bl 24 524287) ?_
      refine pf 19 43 (bl 24 1048575) ?_
      refine pf 20 44 (bl 24 2097151) ?_
      refine pf 21 45 (bl 24 4194303) ?_
      refine pu 22 46 (bl 24 8388607) ?_
      refine pu 23 4 (bl 24 16777215) ?_
      refine dn ?_ _
      try go_wp2
      go_ret
      exact ⟨rt, bw⟩
    ·obtain rfl := Option.some.inj H
     try go_wp2
     replace BK524 := bd BK524
     replace HB := hd HB
     refine st 24 (fun w' => CA w' gb524 0 [.int .i64 a0_0, .slice A0_1 l0_1.length c0_1, .slice A0_2 l0_2.length c0_2, .int .u32 a0_3, .int .i64 a0_4, .int .i64 a0_5, .int .i64 a0_6, .int .u32 a0_7]) [] (cx BK524) impl_isGiving.tab5 impl_isGiving.bits5 ?_; intro hHeld HT_ HW_
     generalize w4.drew = w25 at BK524 HB hHeld ⊢
     refine pu 0 24 (bl 24 1) ?_
     refine tk 1 25 (bl 24 3) ?_
     refine pu 2 26 (bl 24 7) ?_
     refine pu 3 27 (bl 24 15) ?_
     refine pu 4 28 (bl 24 31) ?_
     refine tk 5 29 (bl 24 63) ?_
     refine pu 6 30 (bl 24 127) ?_
     refine pu 7 31 (bl 24 255) ?_
     refine pu 8 32 (bl 24 511) ?_
     refine pf 9 33 (bl 24 1023) ?_
     refine pf 10 34 (bl 24 2047) ?_
     refine pf 11 35 (bl 24 4095) ?_
     refine pf 12 36 (bl 24 8191) ?_
     refine pf 13 37 (bl 24 16383) ?_
     refine pu 14 38 (bl 24 32767) ?_
     refine pu 15 39 (bl 24 65535) ?_
     refine pf 16 40 (bl 24 131071) ?_
     refine pf 17 41 (bl 24 262143) ?_
     refine pf 18 42 (bl 24 524287) ?_
     refine pf 19 43 (bl 24 1048575) ?_
     refine pf 20 44 (bl 24 2097151) ?_
     refine pf 21 45 (bl 24 4194303) ?_
     refine pu 22 46 (bl 24 8388607) ?_
     refine pu 23 4 (bl 24 16777215) ?_
     refine dn ?_ _
     try go_wp2
     go_ret
     exact ⟨rt, bw⟩
   ·obtain rfl := Option.some.inj H
    try go_wp2
    replace BK524 := bd BK524
    replace HB := hd HB
    refine st 24 (fun w' => CA w' gb524 0 [.int .i64 a0_0, .slice A0_1 l0_1.length c0_1, .slice A0_2 l0_2.length c0_2, .int .u32 a0_3, .int .i64 a0_4, .int .i64 a0_5, .int .i64 a0_6, .int .u32 a0_7]) [] (cx BK524) impl_isGiving.tab5 impl_isGiving.bits5 ?_; intro hHeld HT_ HW_
    generalize w4.drew = w26 at BK524 HB hHeld ⊢
    refine pu 0 24 (bl 24 1) ?_
    refine tk 1 25 (bl 24 3) ?_
    refine pu 2 26 (bl 24 7) ?_
    refine pu 3 27 (bl 24 15) ?_
    refine pf 4 28 (bl 24 31) ?_
    refine pf 5 29 (bl 24 63) ?_
    refine pf 6 30 (bl 24 127) ?_
    refine pu 7 31 (bl 24 255) ?_
    refine pu 8 32 (bl 24 511) ?_
    refine pf 9 33 (bl 24 1023) ?_
    refine pf 10 34 (bl 24 2047) ?_
    refine pf 11 35 (bl 24 4095) ?_
    refine pf 12 36 (bl 24 8191) ?_
    refine pf 13 37 (bl 24 16383) ?_
    refine pu 14 38 (bl 24 32767) ?_
    refine pu 15 39 (bl 24 65535) ?_
    refine pf 16 40 (bl 24 131071) ?_
    refine pf 17 41 (bl 24 262143) ?_
    refine pf 18 42 (bl 24 524287) ?_
    refine pf 19 43 (bl 24 1048575) ?_
    refine pf 20 44 (bl 24 2097151) ?_
    refine pf 21 45 (bl 24 4194303) ?_
    refine pu 22 46 (bl 24 8388607) ?_
    refine pu 23 4 (bl 24 16777215) ?_
    refine dn ?_ _
    try go_wp2
    go_ret
    exact ⟨rt, bw⟩
  ·replace H := ieq H
   rcases H with ⟨c27b0, c27b1, H⟩ | ⟨c27, c27b0, c27b1, H⟩
   ·replace H := bn H
    obtain ⟨t528, A28, H⟩ := H
    try dsimp only at H
    replace H := ib H
    rcases H with ⟨rfl, H⟩ | ⟨rfl, H⟩
    ·replace H := ile H
     rcases H with ⟨c30b0, H⟩ | ⟨c30b0, H⟩
     ·obtain rfl := Option.some.inj H
      obtain ⟨z31_0, z31_1, z31_2, z31_3, z31_4, z31_5, z31_6, z31_7⟩ := ca8 BK524
      obtain ⟨f31_0, f31_1, f31_2, f31_3, f31_4, f31_5, f31_6, f31_7⟩ := fa8 BK524
      go_wp2_with (first | ((with_reducible refine gf 21 ?_); refine gc Tryz.func21 (some 52) (impl_within.calls _ _ _ _ _ A28.out) ?_; rintro e w' ⟨rfl, ⟨nd, rfl⟩⟩; refine ⟨_, rfl, ?_⟩))
      go_ret
      exact ⟨rt, bw⟩
     ·obtain rfl := Option.some.inj H
      obtain ⟨z32_0, z32_1, z32_2, z32_3, z32_4, z32_5, z32_6, z32_7⟩ := ca8 BK524
      obtain ⟨f32_0, f32_1, f32_2, f32_3, f32_4, f32_5, f32_6, f32_7⟩ := fa8 BK524
      go_wp2_with (first | ((with_reducible refine gf 21 ?_); refine gc Tryz.func21 (some 52) (impl_within.calls _ _ _ _ _ A28.out) ?_; rintro e w' ⟨rfl, ⟨nd, rfl⟩⟩; refine ⟨_, rfl, ?_⟩))
      go_ret
      exact ⟨rt, bw⟩
    ·obtain rfl := Option.some.inj H
     obtain ⟨z33_0, z33_1, z33_2, z33_3, z33_4, z33_5, z33_6, z33_7⟩ := ca8 BK524
     obtain ⟨f33_0, f33_1, f33_2, f33_3, f33_4, f33_5, f33_6, f33_7⟩ := fa8 BK524
     go_wp2_with (first | ((with_reducible refine gf 21 ?_); refine gc Tryz.func21 (some 52) (impl_within.calls _ _ _ _ _ A28.out) ?_; rintro e w' ⟨rfl, ⟨nd, rfl⟩⟩; refine ⟨_, rfl, ?_⟩))
     go_ret
     exact ⟨rt, bw⟩
   ·obtain rfl := Option.some.inj H
    go_wp2
    go_ret
    exact ⟨rt, bw⟩

end Go.Proofs.YtobboonnfocalaaGreatDoor.PG1
namespace Go.Proofs.YtobboonnfocalaaGreatDoor.PG1
open Go.RowKit Go.Proofs.YtobboonnfocalaaGreatDoorW.PrintWords Go.Proofs.YtobboonnfocalaaGreatDoorW.PrintLast Go.Proofs.YtobboonnfocalaaGreatDoorW.PrintMore Go.Proofs.YtobboonnfocalaaGreatDoor.T
attribute [local go_sem] max2_int min2_int max_two min_two max_three min_three max_four min_four   -- for this text's walks alone
set_option linter.unusedVariables false
set_option linter.unusedSimpArgs false

/-! ### impl_Warp_isSmall: function 76 -/
def impl_Warp_isSmall.f (a0_0 : Int) (l0_1 : List Int) (l0_2 : List Int) (a0_3 : Int) (a0_4 : Int) (a0_5 : Int) (a0_6 : Int) (a0_7 : Int) : Option (Bool) := if a0_0 = 1 then ((impl_Warp_lead.f a0_0 l0_1 l0_2 a0_3 a0_4 a0_5 a0_6 a0_7).bind fun t530 => (some (decide (t530 ≤ 16)))) else (some false)
set_option maxHeartbeats 2000000 in
set_option maxRecDepth 100000 in
theorem impl_Warp_isSmall.calls (a0_0 : Int) (A0_1 : Option Addr) (c0_1 : Nat) (l0_1 : List Int) (A0_2 : Option Addr) (c0_2 : Nat) (l0_2 : List Int) (a0_3 : Int) (a0_4 : Int) (a0_5 : Int) (a0_6 : Int) (a0_7 : Int) (r : Bool) (w : World) (hr0_1 : Kd.C (Kd.int .i64) w A0_1 l0_1.length l0_1) (hc0_1 : l0_1.length ≤ c0_1) (hr0_2 : Kd.C (Kd.int .i64) w A0_2 l0_2.length l0_2) (hc0_2 : l0_2.length ≤ c0_2) (h : impl_Warp_isSmall.f a0_0 l0_1 l0_2 a0_3 a0_4 a0_5 a0_6 a0_7 = some r) (hT : GT w) :
  Calls Tryz.prog 76 #[.agg #[.int .i64 a0_0, .slice A0_1 l0_1.length c0_1, .slice A0_2 l0_2.length c0_2, .int .u32 a0_3, .int .i64 a0_4, .int .i64 a0_5, .int .i64 a0_6, .int .u32 a0_7]] w fun e w' => e = .returned (.bool r) ∧ Below w.heap.size w w' := by
 have hu49 := Tryz.underlying49
 have HR0_1 := Aside0.mk hr0_1
 have HC0_1 := Aside0.mk hc0_1
 clear hr0_1 hc0_1
 have HR0_2 := Aside0.mk hr0_2
 have HC0_2 := Aside0.mk hc0_2
 clear hr0_2 hc0_2
 have HB := Aside0.mk (Below.refl w.heap.size w)
 unfold impl_Warp_isSmall.f at h
 have H := h
 clear h
 replace H := ieq H
 rcases H with ⟨c2b0, c2b1, H⟩ | ⟨c2, c2b0, c2b1, H⟩
 ·replace H := bn H
  obtain ⟨t530, A3, H⟩ := H
  try dsimp only at H
  obtain rfl := Option.some.inj H
  go_enter Tryz.func76, Tryz.ntmps76
  go_wp2_with (first | ((with_reducible refine gd 1 ?_); refine bx 1 49 #[.int .i64 a0_0, .slice A0_1 l0_1.length c0_1, .slice A0_2 l0_2.length c0_2, .int .u32 a0_3, .int .i64 a0_4, .int .i64 a0_5, .int .i64 a0_6, .int .u32 a0_7] ?_; clear HB; intro gb529 w4 hg BK529 hb GE529 HB; clear hb hg; obtain ⟨z5_0, z5_1, z5_2, z5_3, z5_4, z5_5, z5_6, z5_7⟩ := ca8 BK529; obtain ⟨f5_0, f5_1, f5_2, f5_3, f5_4, f5_5, f5_6, f5_7⟩ := fa8 BK529) | (go_at_call 92; (with_reducible refine (impl_Warp_lead.calls _ _ _ _ _ _ _ _ _ _ _ _ _ _ ?side1 ?side2 ?side3 ?side4 A3.out (hT.below bw)).mono ?_); (case side1 => repeat (first | exact (Kd.C_below HR0_1.out HB.out) | (with_reducible refine Kd.C_alloc ?_ _) | (with_reducible refine Kd.C_drewN ?_ _) | (with_reducible refine Kd.C_drew ?_))); (case side2 => exact HC0_1.out); (case side3 => repeat (first | exact (Kd.C_below HR0_2.out HB.out) | (with_reducible refine Kd.C_alloc ?_ _) | (with_reducible refine Kd.C_drewN ?_ _) | (with_reducible refine Kd.C_drew ?_))); (case side4 => exact HC0_2.out); rintro e w6 ⟨rfl, hb⟩; replace BK529 := b_ BK529 hb; replace HB := hs hb; try clear hb))
  go_ret
  exact ⟨rt, bw⟩
 ·obtain rfl := Option.some.inj H
  go_enter Tryz.func76, Tryz.ntmps76
  go_wp2_with (first | ((with_reducible refine gd 1 ?_); refine bx 1 49 #[.int .i64 a0_0, .slice A0_1 l0_1.length c0_1, .slice A0_2 l0_2.length c0_2, .int .u32 a0_3, .int .i64 a0_4, .int .i64 a0_5, .int .i64 a0_6, .int .u32 a0_7] ?_; clear HB; intro gb529 w7 hg BK529 hb GE529 HB; clear hb hg; obtain ⟨z8_0, z8_1, z8_2, z8_3, z8_4, z8_5, z8_6, z8_7⟩ := ca8 BK529; obtain ⟨f8_0, f8_1, f8_2, f8_3, f8_4, f8_5, f8_6, f8_7⟩ := fa8 BK529))
  go_ret
  exact ⟨rt, bw⟩

/-! ### impl_isTakingSmall: function 77 -/
def impl_isTakingSmall.j0 : Nat → Int → Bool → Int → List Int → List Int → Int → Int → Int → Int → Int → Option (Bool)
 | 0, _, _, _, _, _, _, _, _, _, _ => none
 | k + 1, x1, x13, x547000, x547001, x547002, x547003, x547004, x547005, x547006, x547007 => if x13 = true then (some false) else (if x547004 = 0 then (some (x547007 == 0)) else (if x547004 = 1 then (if x547005 < x1 then ((impl_Warp_lead.f x547000 x547001 x547002 x547003 x547004 x547005 x547006 x547007).bind fun t547 => ((impl_ClassOf.f k t547).bind fun t548 => ((impl_Room.f k x547007 t548).bind fun t549 => (some (decide (t549 > 0)))))) else (some false)) else (some false)))
def impl_isTakingSmall.f (k : Nat) (a0_0 : Int) (l0_1 : List Int) (l0_2 : List Int) (a0_3 : Int) (a0_4 : Int) (a0_5 : Int) (a0_6 : Int) (a0_7 : Int) (a1 : Int) : Option (Bool) := if a0_6 = 0 then (impl_isTakingSmall.j0 k a1 (decide (a0_5 > a1)) a0_0 l0_1 l0_2 a0_3 a0_4 a0_5 a0_6 a0_7) else (impl_isTakingSmall.j0 k a1 true a0_0 l0_1 l0_2 a0_3 a0_4 a0_5 a0_6 a0_7)
theorem impl_isTakingSmall.mono_l : ∀ k, (∀ y0 y1 y2 y3 y4 y5 y6 y7 y8 y9, LeO (impl_isTakingSmall.j0 k y0 y1 y2 y3 y4 y5 y6 y7 y8 y9) (impl_isTakingSmall.j0 (k + 1) y0 y1 y2 y3 y4 y5 y6 y7 y8 y9))
 | 0 => fun _ _ _ _ _ _ _ _ _ _ r h => by simp [impl_isTakingSmall.j0] at h
 | k + 1 => by
  have ih0 := impl_isTakingSmall.mono_l k
  ·intro y0 y1 y2 y3 y4 y5 y6 y7 y8 y9
   unfold impl_isTakingSmall.j0
   repeat' first
    | (with_reducible first | exact ih0 .. | exact impl_ClassOf.mono .. | exact impl_Room.mono .. | exact LeO.refl _ | exact LeO.none _ | refine LeO.ite ?_ ?_ | refine LeO.bind ?_ (fun _ => ?_))
    | exact LeO.none _ | refine LeO.ite ?_ ?_ | refine LeO.bind ?_ (fun _ => ?_)
theorem impl_isTakingSmall.mono : ∀ a0 a1 a2 a3 a4 a5 a6 a7 a8 k, LeO (impl_isTakingSmall.f k a0 a1 a2 a3 a4 a5 a6 a7 a8) (impl_isTakingSmall.f (k + 1) a0 a1 a2 a3 a4 a5 a6 a7 a8) := by
 intro a0 a1 a2 a3 a4 a5 a6 a7 a8 k
 have ih0 := impl_isTakingSmall.mono_l k
 unfold impl_isTakingSmall.f
 repeat' first
  | (with_reducible first | exact ih0 .. | exact impl_ClassOf.mono .. | exact impl_Room.mono .. | exact LeO.refl _ | exact LeO.none _ | refine LeO.ite ?_ ?_ | refine LeO.bind ?_ (fun _ => ?_))
  | exact LeO.none _ | refine LeO.ite ?_ ?_ | refine LeO.bind ?_ (fun _ => ?_)
def impl_isTakingSmall.T7 : Bool × List (List Nat × List Nat) := (true, [([], []), ([0], [0]), ([], []), ([1, 2], [1, 2]), ([3], [3]), ([4], [4]), ([5, 4], [4, 5]), ([4], [4]), ([7, 4, 4], [4, 7]), ([8, 8, 4], [4, 8]), ([6, 9, 9, 4], [4, 6, 9]), ([10, 4], [4, 10]), ([4, 11], [4, 11]), ([12, 10, 0, 1, 2, 3, 4, 5, 6, 7, 8, 9, 10, 11, 12], [12])])
def impl_isTakingSmall.B7 : List Nat := [0, 1, 0, 7, 15, 31, 63, 31, 159, 415, 1023, 2047, 4095, 8191]
theorem impl_isTakingSmall.tab7 : rtab .any (opsOf Tryz.f77 7) = impl_isTakingSmall.T7 := kr
theorem impl_isTakingSmall.bits7 : waitsOk impl_isTakingSmall.T7.2 impl_isTakingSmall.B7 = true := kr
set_option maxHeartbeats 2000000 in
set_option maxRecDepth 100000 in
theorem impl_isTakingSmall.calls (k : Nat) (a0_0 : Int) (A0_1 : Option Addr) (c0_1 : Nat) (l0_1 : List Int) (A0_2 : Option Addr) (c0_2 : Nat) (l0_2 : List Int) (a0_3 : Int) (a0_4 : Int) (a0_5 : Int) (a0_6 : Int) (a0_7 : Int) (a1 : Int) (r : Bool) (w : World) (hr0_1 : Kd.C (Kd.int .i64) w A0_1 l0_1.length l0_1) (hc0_1 : l0_1.length ≤ c0_1) (hr0_2 : Kd.C (Kd.int .i64) w A0_2 l0_2.length l0_2) (hc0_2 : l0_2.length ≤ c0_2) (h : impl_isTakingSmall.f k a0_0 l0_1 l0_2 a0_3 a0_4 a0_5 a0_6 a0_7 a1 = some r) (hT : GT w) :
  Calls Tryz.prog 77 #[.agg #[.int .i64 a0_0, .slice A0_1 l0_1.length c0_1, .slice A0_2 l0_2.length c0_2, .int .u32 a0_3, .int .i64 a0_4, .int .i64 a0_5, .int .i64 a0_6, .int .u32 a0_7], .int .i64 a1] w fun e w' => e = .returned (.bool r) ∧ Below w.heap.size w w' := by
 have hu49 := Tryz.underlying49
 have HR0_1 := Aside0.mk hr0_1
 have HC0_1 := Aside0.mk hc0_1
 clear hr0_1 hc0_1
 have HR0_2 := Aside0.mk hr0_2
 have HC0_2 := Aside0.mk hc0_2
 clear hr0_2 hc0_2
 have HB := Aside0.mk (Below.refl w.heap.size w)
 unfold impl_isTakingSmall.f at h
 have H := h
 clear h
 have HC3 := Aside0.mk H
 clear H
 go_enter Tryz.func77, Tryz.ntmps77
 go_upto_region 1 with (first | ((with_reducible refine gd 2 ?_); refine bx 2 49 #[.int .i64 a0_0, .slice A0_1 l0_1.length c0_1, .slice A0_2 l0_2.length c0_2, .int .u32 a0_3, .int .i64 a0_4, .int .i64 a0_5, .int .i64 a0_6, .int .u32 a0_7] ?_; clear HB; intro gb546 w4 hg BK546 hb GE546 HB; clear hb hg))
 (try refine ap ?_)
 go_cut [13] (fun v13 wc => ∃ (kq : Nat) (x13_2 : Bool), v13 = .bool x13_2 ∧ Aside0 (impl_isTakingSmall.j0 kq a1 x13_2 a0_0 l0_1 l0_2 a0_3 a0_4 a0_5 a0_6 a0_7 = some r) ∧ Aside0 (kq ≤ k) ∧ Aside0 (wc.heap[gb546]? = some (.cells #[.int .i64 a0_0, (.slice A0_1 l0_1.length c0_1), (.slice A0_2 l0_2.length c0_2), .int .u32 a0_3, .int .i64 a0_4, .int .i64 a0_5, .int .i64 a0_6, .int .u32 a0_7] 49 (0, 0))) ∧ Aside0 (Below w.heap.size w wc))
 case first =>
  have H := HC3.out
  clear HC3
  replace H := ieq H
  rcases H with ⟨c5b0, c5b1, H⟩ | ⟨c5, c5b0, c5b1, H⟩
  ·(first | rw [c5b0] | (simp only [i64_w, i32_w]; rw [c5b0]) | (simp only [c5b2, Bool.not_true, Bool.not_false]) | (simp only [c5b1, Bool.not_true, Bool.not_false]) | skip)
   have H' := Aside0.mk H
   clear H
   obtain ⟨z6_0, z6_1, z6_2, z6_3, z6_4, z6_5, z6_6, z6_7⟩ := ca8 BK546
   obtain ⟨f6_0, f6_1, f6_2, f6_3, f6_4, f6_5, f6_6, f6_7⟩ := fa8 BK546
   go_wp2
   go_meet
   case rel => exact ⟨_, (decide (a0_5 > a1)), ev, H', ⟨om⟩, ⟨bk BK546⟩, ⟨bw⟩⟩
  ·(first | rw [c5b0] | (simp only [i64_w, i32_w]; rw [c5b0]) | (simp only [c5b2, Bool.not_true, Bool.not_false]) | (simp only [c5b1, Bool.not_true, Bool.not_false]) | skip)
   have H' := Aside0.mk H
   clear H
   obtain ⟨z7_0, z7_1, z7_2, z7_3, z7_4, z7_5, z7_6, z7_7⟩ := ca8 BK546
   obtain ⟨f7_0, f7_1, f7_2, f7_3, f7_4, f7_5, f7_6, f7_7⟩ := fa8 BK546
   go_wp2
   go_meet
   case rel => exact ⟨_, (true), ev, H', ⟨om⟩, ⟨bk BK546⟩, ⟨bw⟩⟩
 case rest =>
  clear HC3
  obtain ⟨kq, x13_2, rfl, HA, HJ2, BK546, HB⟩ := hcut
  cases kq with
  | zero => exact absurd HA.out (by simp [impl_isTakingSmall.j0])
  | succ kj2 =>
   have H := HA.out
   clear HA
   simp only [impl_isTakingSmall.j0] at H
   replace H := ib H
   rcases H with ⟨rfl, H⟩ | ⟨rfl, H⟩
   ·obtain rfl := Option.some.inj H
    go_wp2
    go_ret
    exact ⟨rt, bw⟩
   ·replace H := ieq H
    rcases H with ⟨c9b0, c9b1, H⟩ | ⟨c9, c9b0, c9b1, H⟩
    ·obtain rfl := Option.some.inj H
     obtain ⟨z10_0, z10_1, z10_2, z10_3, z10_4, z10_5, z10_6, z10_7⟩ := ca8 BK546
     obtain ⟨f10_0, f10_1, f10_2, f10_3, f10_4, f10_5, f10_6, f10_7⟩ := fa8 BK546
     go_wp2
     go_ret
     exact ⟨rt, bw⟩
    ·replace H := ieq H
     rcases H with ⟨c11b0, c11b1, H⟩ | ⟨c11, c11b0, c11b1, H⟩
     ·replace H := ilt H
      rcases H with ⟨c12b0, H⟩ | ⟨c12b0, H⟩
      ·replace H := bn H
       obtain ⟨t547, A13, H⟩ := H
       try dsimp only at H
       replace H := bn H
       obtain ⟨t548, A14, H⟩ := H
       try dsimp only at H
       replace H := bn H
       obtain ⟨t549, A15, H⟩ := H
       try dsimp only at H
       obtain rfl := Option.some.inj H
       obtain ⟨z16_0, z16_1, z16_2, z16_3, z16_4, z16_5, z16_6, z16_7⟩ := ca8 BK546
       obtain ⟨f16_0, f16_1, f16_2, f16_3, f16_4, f16_5, f16_6, f16_7⟩ := fa8 BK546
       try go_wp2
       replace BK546 := bd BK546
       replace HB := hd HB
       refine st 14 (fun w' => CA w' gb546 0 [.int .i64 a0_0, .slice A0_1 l0_1.length c0_1, .slice A0_2 l0_2.length c0_2, .int .u32 a0_3, .int .i64 a0_4, .int .i64 a0_5, .int .i64 a0_6, .int .u32 a0_7]) [] (cx BK546) impl_isTakingSmall.tab7 impl_isTakingSmall.bits7 ?_; intro hHeld HT_ HW_
       generalize wc.drew = w17 at BK546 HB hHeld ⊢
       refine pu 0 23 (bl 14 1) ?_
       refine pu 2 25 (bl 14 5) ?_
       refine tk 1 24 (bl 14 7) ?_
       refine pu 3 26 (bl 14 15) ?_
       refine pu 4 27 (bl 14 31) ?_
       refine pu 5 28 (bl 14 63) ?_
       refine tk 6 29 (bl 14 127) ?_
       refine tk 7 30 (bl 14 255) ?_
       refine on_ 8 (some 31) (bl 14 511) (fun K hK => ?_)
       refine gq Tryz.func92 (impl_Warp_lead.calls _ A0_1 c0_1 _ A0_2 c0_2 _ _ _ _ _ _ _ _ (cb HR0_1) HC0_1.out (cb HR0_2) HC0_2.out A13.out (hT.below bw)) ?_
       rintro e w18 ⟨rfl, hb⟩
       refine ⟨_, rfl, ?_⟩
       replace BK546 := b_ BK546 hb
       replace HB := hs hb
       (try clear hb)
       refine hK.out _ _ (cx BK546) (fun hHeld => ?_)
       clear hK K
       refine nm ?_
       refine on_ 9 (some 32) (bl 14 1023) (fun K hK => ?_)
       refine gq Tryz.func95 (impl_ClassOf.calls _ _ _ _ A14.out) ?_
       rintro e w' ⟨rfl, ⟨nd, rfl⟩⟩
       refine ⟨_, rfl, ?_⟩
       refine hK.out _ _ (cx BK546) (fun hHeld => ?_)
       clear hK K
       refine nm ?_
       refine on_ 10 (some 33) (bl 14 2047) (fun K hK => ?_)
       refine gq Tryz.func94 (impl_Room.calls _ _ _ _ _ A15.out) ?_
       rintro e w19 ⟨rfl, hb⟩
       refine ⟨_, rfl, ?_⟩
       replace BK546 := b_ BK546 hb
       replace HB := hs hb
       (try clear hb)
       refine hK.out _ _ (cx BK546) (fun hHeld => ?_)
       clear hK K
       refine nm ?_
       refine pu 11 34 (bl 14 4095) ?_
       refine pu 12 35 (bl 14 8191) ?_
       refine pu 13 4 (bl 14 16383) ?_
       refine dn ?_ _
       try go_wp2
       go_ret
       exact ⟨rt, bw⟩
      ·obtain rfl := Option.some.inj H
       obtain ⟨z20_0, z20_1, z20_2, z20_3, z20_4, z20_5, z20_6, z20_7⟩ := ca8 BK546
       obtain ⟨f20_0, f20_1, f20_2, f20_3, f20_4, f20_5, f20_6, f20_7⟩ := fa8 BK546
       try go_wp2
       replace BK546 := bd BK546
       replace HB := hd HB
       refine st 14 (fun w' => CA w' gb546 0 [.int .i64 a0_0, .slice A0_1 l0_1.length c0_1, .slice A0_2 l0_2.length c0_2, .int .u32 a0_3, .int .i64 a0_4, .int .i64 a0_5, .int .i64 a0_6, .int .u32 a0_7]) [] (cx BK546) impl_isTakingSmall.tab7 impl_isTakingSmall.bits7 ?_; intro hHeld HT_ HW_
       generalize wc.drew = w21 at BK546 HB hHeld ⊢
       refine pu 0 23 (bl 14 1) ?_
       refine pu 2 25 (bl 14 5) ?_
       refine tk 1 24 (bl 14 7) ?_
       refine pu 3 26 (bl 14 15) ?_
       refine pu 4 27 (bl 14 31) ?_
       refine pf 5 28 (bl 14 63) ?_
       refine pf 6 29 (bl 14 127) ?_
       refine pf 7 30 (bl 14 255) ?_
       refine pf 8 31 (bl 14 511) ?_
       refine pf 9 32 (bl 14 1023) ?_
       refine pf 10 33 (bl 14 2047) ?_
       refine pf 11 34 (bl 14 4095) ?_
       refine pu 12 35 (bl 14 8191) ?_
       refine pu 13 4 (bl 14 16383) ?_
       refine dn ?_ _
       try go_wp2
       go_ret
       exact ⟨rt, bw⟩
     ·obtain rfl := Option.some.inj H
      obtain ⟨z22_0, z22_1, z22_2, z22_3, z22_4, z22_5, z22_6, z22_7⟩ := ca8 BK546
      obtain ⟨f22_0, f22_1, f22_2, f22_3, f22_4, f22_5, f22_6, f22_7⟩ := fa8 BK546
      go_wp2
      go_ret
      exact ⟨rt, bw⟩

end Go.Proofs.YtobboonnfocalaaGreatDoor.PG1
namespace Go.Proofs.YtobboonnfocalaaGreatDoor.PG1
open Go.RowKit Go.Proofs.YtobboonnfocalaaGreatDoorW.PrintWords Go.Proofs.YtobboonnfocalaaGreatDoorW.PrintLast Go.Proofs.YtobboonnfocalaaGreatDoorW.PrintMore Go.Proofs.YtobboonnfocalaaGreatDoor.T
attribute [local go_sem] max2_int min2_int max_two min_two max_three min_three max_four min_four   -- for this text's walks alone
set_option linter.unusedVariables false
set_option linter.unusedSimpArgs false

/-! ### impl_isTakingLarge: function 78 -/
mutual
def impl_isTakingLarge.j0 : Nat → Int → Int → Bool → Int → List Int → List Int → Int → Int → Int → Int → Int → Option (Bool)
 | 0, _, _, _, _, _, _, _, _, _, _, _ => none
 | k + 1, x1, x5, x30, x552000, x552001, x552002, x552003, x552004, x552005, x552006, x552007 => if x30 = true then (some false) else (if x552006 > 0 then (impl_isTakingLarge.j1 k x5 (decide ((wrap64 (x552005 + x5)) > x1)) x552000 x552001 x552002 x552003 x552004 x552005 x552006 x552007) else (if x552004 = 1 then (impl_isTakingLarge.j1 k x5 (decide ((wrap64 (x552005 + x5)) > x1)) x552000 x552001 x552002 x552003 x552004 x552005 x552006 x552007) else (impl_isTakingLarge.j1 k x5 false x552000 x552001 x552002 x552003 x552004 x552005 x552006 x552007)))
def impl_isTakingLarge.j1 : Nat → Int → Bool → Int → List Int → List Int → Int → Int → Int → Int → Int → Option (Bool)
 | 0, _, _, _, _, _, _, _, _, _, _ => none
 | k + 1, x5, x46, x552000, x552001, x552002, x552003, x552004, x552005, x552006, x552007 => if x46 = true then (some false) else (if x552004 = 2 then (some (decide (x552006 > 0))) else (if x552004 = 3 then (some (x552006 == x5)) else (some (decide (x552006 < x5)))))
end
def impl_isTakingLarge.f (k : Nat) (a0_0 : Int) (l0_1 : List Int) (l0_2 : List Int) (a0_3 : Int) (a0_4 : Int) (a0_5 : Int) (a0_6 : Int) (a0_7 : Int) (a1 : Int) : Option (Bool) := (impl_Warp_lead.f a0_0 l0_1 l0_2 a0_3 a0_4 a0_5 a0_6 a0_7).bind fun t552 => ((impl_ChunksFor.f t552).bind fun t553 => ((impl_within.f a0_4 0 3).bind fun t554 => (if t554 = true then (if a0_5 > a1 then (impl_isTakingLarge.j0 k a1 t553 true a0_0 l0_1 l0_2 a0_3 a0_4 a0_5 a0_6 a0_7) else ((impl_within.f a0_6 0 t553).bind fun t555 => (if t555 = true then (impl_isTakingLarge.j0 k a1 t553 (a0_7 != 0) a0_0 l0_1 l0_2 a0_3 a0_4 a0_5 a0_6 a0_7) else (impl_isTakingLarge.j0 k a1 t553 true a0_0 l0_1 l0_2 a0_3 a0_4 a0_5 a0_6 a0_7)))) else (impl_isTakingLarge.j0 k a1 t553 true a0_0 l0_1 l0_2 a0_3 a0_4 a0_5 a0_6 a0_7))))
theorem impl_isTakingLarge.mono_l : ∀ k, (∀ y0 y1 y2 y3 y4 y5 y6 y7 y8 y9 y10, LeO (impl_isTakingLarge.j0 k y0 y1 y2 y3 y4 y5 y6 y7 y8 y9 y10) (impl_isTakingLarge.j0 (k + 1) y0 y1 y2 y3 y4 y5 y6 y7 y8 y9 y10)) ∧ (∀ y0 y1 y2 y3 y4 y5 y6 y7 y8 y9, LeO (impl_isTakingLarge.j1 k y0 y1 y2 y3 y4 y5 y6 y7 y8 y9) (impl_isTakingLarge.j1 (k + 1) y0 y1 y2 y3 y4 y5 y6 y7 y8 y9))
 | 0 => ⟨fun _ _ _ _ _ _ _ _ _ _ _ r h => by simp [impl_isTakingLarge.j0] at h, fun _ _ _ _ _ _ _ _ _ _ r h => by simp [impl_isTakingLarge.j1] at h⟩
 | k + 1 => by
  obtain ⟨ih0, ih1⟩ := impl_isTakingLarge.mono_l k
  refine ⟨?_, ?_⟩
  ·intro y0 y1 y2 y3 y4 y5 y6 y7 y8 y9 y10
   unfold impl_isTakingLarge.j0
   repeat' first
    | (with_reducible first | exact ih0 .. | exact ih1 .. | exact LeO.refl _ | exact LeO.none _ | refine LeO.ite ?_ ?_ | refine LeO.bind ?_ (fun _ => ?_))
    | exact LeO.none _ | refine LeO.ite ?_ ?_ | refine LeO.bind ?_ (fun _ => ?_)
  ·intro y0 y1 y2 y3 y4 y5 y6 y7 y8 y9
   unfold impl_isTakingLarge.j1
   repeat' first
    | (with_reducible first | exact ih0 .. | exact ih1 .. | exact LeO.refl _ | exact LeO.none _ | refine LeO.ite ?_ ?_ | refine LeO.bind ?_ (fun _ => ?_))
    | exact LeO.none _ | refine LeO.ite ?_ ?_ | refine LeO.bind ?_ (fun _ => ?_)
theorem impl_isTakingLarge.mono : ∀ a0 a1 a2 a3 a4 a5 a6 a7 a8 k, LeO (impl_isTakingLarge.f k a0 a1 a2 a3 a4 a5 a6 a7 a8) (impl_isTakingLarge.f (k + 1) a0 a1 a2 a3 a4 a5 a6 a7 a8) := by
 intro a0 a1 a2 a3 a4 a5 a6 a7 a8 k
 obtain ⟨ih0, ih1⟩ := impl_isTakingLarge.mono_l k
 unfold impl_isTakingLarge.f
 repeat' first
  | (with_reducible first | exact ih0 .. | exact ih1 .. | exact LeO.refl _ | exact LeO.none _ | refine LeO.ite ?_ ?_ | refine LeO.bind ?_ (fun _ => ?_))
  | exact LeO.none _ | refine LeO.ite ?_ ?_ | refine LeO.bind ?_ (fun _ => ?_)
set_option maxHeartbeats 2000000 in
set_option maxRecDepth 100000 in
theorem impl_isTakingLarge.calls (k : Nat) (a0_0 : Int) (A0_1 : Option Addr) (c0_1 : Nat) (l0_1 : List Int) (A0_2 : Option Addr) (c0_2 : Nat) (l0_2 : List Int) (a0_3 : Int) (a0_4 : Int) (a0_5 : Int) (a0_6 : Int) (a0_7 : Int) (a1 : Int) (r : Bool) (w : World) (hr0_1 : Kd.C (Kd.int .i64) w A0_1 l0_1.length l0_1) (hc0_1 : l0_1.length ≤ c0_1) (hr0_2 : Kd.C (Kd.int .i64) w A0_2 l0_2.length l0_2) (hc0_2 : l0_2.length ≤ c0_2) (h : impl_isTakingLarge.f k a0_0 l0_1 l0_2 a0_3 a0_4 a0_5 a0_6 a0_7 a1 = some r) (hT : GT w) :
  Calls Tryz.prog 78 #[.agg #[.int .i64 a0_0, .slice A0_1 l0_1.length c0_1, .slice A0_2 l0_2.length c0_2, .int .u32 a0_3, .int .i64 a0_4, .int .i64 a0_5, .int .i64 a0_6, .int .u32 a0_7], .int .i64 a1] w fun e w' => e = .returned (.bool r) ∧ Below w.heap.size w w' := by
 have hu49 := Tryz.underlying49
 have HR0_1 := Aside0.mk hr0_1
 have HC0_1 := Aside0.mk hc0_1
 clear hr0_1 hc0_1
 have HR0_2 := Aside0.mk hr0_2
 have HC0_2 := Aside0.mk hc0_2
 clear hr0_2 hc0_2
 have HB := Aside0.mk (Below.refl w.heap.size w)
 unfold impl_isTakingLarge.f at h
 have H := h
 clear h
 replace H := bn H
 obtain ⟨t552, A3, H⟩ := H
 try dsimp only at H
 replace H := bn H
 obtain ⟨t553, A4, H⟩ := H
 try dsimp only at H
 have HC5 := Aside0.mk H
 clear H
 go_enter Tryz.func78, Tryz.ntmps78
 go_upto_region 2 with (first | ((with_reducible refine gd 2 ?_); refine bx 2 49 #[.int .i64 a0_0, .slice A0_1 l0_1.length c0_1, .slice A0_2 l0_2.length c0_2, .int .u32 a0_3, .int .i64 a0_4, .int .i64 a0_5, .int .i64 a0_6, .int .u32 a0_7] ?_; clear HB; intro gb551 w6 hg BK551 hb GE551 HB; clear hb hg; obtain ⟨z7_0, z7_1, z7_2, z7_3, z7_4, z7_5, z7_6, z7_7⟩ := ca8 BK551; obtain ⟨f7_0, f7_1, f7_2, f7_3, f7_4, f7_5, f7_6, f7_7⟩ := fa8 BK551) | ((with_reducible refine gf 92 ?_); refine gc Tryz.func92 (some 7) (impl_Warp_lead.calls _ A0_1 c0_1 _ A0_2 c0_2 _ _ _ _ _ _ _ _ (cb HR0_1) HC0_1.out (cb HR0_2) HC0_2.out A3.out (hT.below bw)) ?_; rintro e w8 ⟨rfl, hb⟩; refine ⟨_, rfl, ?_⟩; replace BK551 := b_ BK551 hb; replace HB := hs hb; try clear hb) | ((with_reducible refine gf 96 ?_); refine gc Tryz.func96 (some 8) (impl_ChunksFor.calls _ _ _ A4.out) ?_; rintro e w' ⟨rfl, ⟨nd, rfl⟩⟩; refine ⟨_, rfl, ?_⟩))
 (try refine ap ?_)
 go_cut [30] (fun v30 wc => ∃ (kq : Nat) (x30_4 : Bool), v30 = .bool x30_4 ∧ Aside0 (impl_isTakingLarge.j0 kq a1 t553 x30_4 a0_0 l0_1 l0_2 a0_3 a0_4 a0_5 a0_6 a0_7 = some r) ∧ Aside0 (kq ≤ k) ∧ Aside0 (wc.heap[gb551]? = some (.cells #[.int .i64 a0_0, (.slice A0_1 l0_1.length c0_1), (.slice A0_2 l0_2.length c0_2), .int .u32 a0_3, .int .i64 a0_4, .int .i64 a0_5, .int .i64 a0_6, .int .u32 a0_7] 49 (0, 0))) ∧ Aside0 (Below w.heap.size w wc))
 case first =>
  have H := HC5.out
  clear HC5
  replace H := bn H
  obtain ⟨t554, A9, H⟩ := H
  try dsimp only at H
  replace H := ib H
  rcases H with ⟨rfl, H⟩ | ⟨rfl, H⟩
  ·(try simp only [Bool.not_true, Bool.not_false])
   replace H := igt H
   rcases H with ⟨c11b0, H⟩ | ⟨c11b0, H⟩
   ·have H' := Aside0.mk H
    clear H
    obtain ⟨z12_0, z12_1, z12_2, z12_3, z12_4, z12_5, z12_6, z12_7⟩ := ca8 BK551
    obtain ⟨f12_0, f12_1, f12_2, f12_3, f12_4, f12_5, f12_6, f12_7⟩ := fa8 BK551
    go_wp2_with (first | ((with_reducible refine gf 21 ?_); refine gc Tryz.func21 (some 11) (impl_within.calls _ _ _ _ _ A9.out) ?_; rintro e w' ⟨rfl, ⟨nd, rfl⟩⟩; refine ⟨_, rfl, ?_⟩))
    go_meet
    case rel => exact ⟨_, (true), ev, H', ⟨om⟩, ⟨bk BK551⟩, ⟨bw⟩⟩
   ·replace H := bn H
    obtain ⟨t555, A13, H⟩ := H
    try dsimp only at H
    replace H := ib H
    rcases H with ⟨rfl, H⟩ | ⟨rfl, H⟩
    ·have H' := Aside0.mk H
     clear H
     obtain ⟨z15_0, z15_1, z15_2, z15_3, z15_4, z15_5, z15_6, z15_7⟩ := ca8 BK551
     obtain ⟨f15_0, f15_1, f15_2, f15_3, f15_4, f15_5, f15_6, f15_7⟩ := fa8 BK551
     go_wp2_with (first | ((with_reducible refine gf 21 ?_); refine gc Tryz.func21 (some 11) (impl_within.calls _ _ _ _ _ A9.out) ?_; rintro e w' ⟨rfl, ⟨nd, rfl⟩⟩; refine ⟨_, rfl, ?_⟩) | (go_at_call 21; (with_reducible refine (impl_within.calls _ _ _ _ _ A13.out).mono ?_); rintro e w' ⟨rfl, ⟨nd, rfl⟩⟩))
     go_meet
     case rel => exact ⟨_, ((a0_7 != 0)), ev, H', ⟨om⟩, ⟨bk BK551⟩, ⟨bw⟩⟩
    ·have H' := Aside0.mk H
     clear H
     obtain ⟨z16_0, z16_1, z16_2, z16_3, z16_4, z16_5, z16_6, z16_7⟩ := ca8 BK551
     obtain ⟨f16_0, f16_1, f16_2, f16_3, f16_4, f16_5, f16_6, f16_7⟩ := fa8 BK551
     go_wp2_with (first | ((with_reducible refine gf 21 ?_); refine gc Tryz.func21 (some 11) (impl_within.calls _ _ _ _ _ A9.out) ?_; rintro e w' ⟨rfl, ⟨nd, rfl⟩⟩; refine ⟨_, rfl, ?_⟩) | (go_at_call 21; (with_reducible refine (impl_within.calls _ _ _ _ _ A13.out).mono ?_); rintro e w' ⟨rfl, ⟨nd, rfl⟩⟩))
     go_meet
     case rel => exact ⟨_, (true), ev, H', ⟨om⟩, ⟨bk BK551⟩, ⟨bw⟩⟩
  ·(try simp only [Bool.not_true, Bool.not_false])
   have H' := Aside0.mk H
   clear H
   obtain ⟨z17_0, z17_1, z17_2, z17_3, z17_4, z17_5, z17_6, z17_7⟩ := ca8 BK551
   obtain ⟨f17_0, f17_1, f17_2, f17_3, f17_4, f17_5, f17_6, f17_7⟩ := fa8 BK551
   go_wp2_with (first | ((with_reducible refine gf 21 ?_); refine gc Tryz.func21 (some 11) (impl_within.calls _ _ _ _ _ A9.out) ?_; rintro e w' ⟨rfl, ⟨nd, rfl⟩⟩; refine ⟨_, rfl, ?_⟩))
   go_meet
   case rel => exact ⟨_, (true), ev, H', ⟨om⟩, ⟨bk BK551⟩, ⟨bw⟩⟩
 case rest =>
  clear HC5
  (try clear z7_0 z7_1 z7_2 z7_3 z7_4 z7_5 z7_6 z7_7)
  (try clear f7_0 f7_1 f7_2 f7_3 f7_4 f7_5 f7_6 f7_7)
  obtain ⟨kq, x30_4, rfl, HA, HJ4, BK551, HB⟩ := hcut
  cases kq with
  | zero => exact absurd HA.out (by simp [impl_isTakingLarge.j0])
  | succ kj4 =>
   have H := HA.out
   clear HA
   simp only [impl_isTakingLarge.j0] at H
   replace H := ib H
   rcases H with ⟨rfl, H⟩ | ⟨rfl, H⟩
   ·obtain rfl := Option.some.inj H
    go_wp2
    go_ret
    exact ⟨rt, bw⟩
   ·have HC19 := Aside0.mk H
    clear H
    go_upto_region 4 with (fail)
    go_cut [46] (fun v46 wc => ∃ (kq : Nat) (x46_18 : Bool), v46 = .bool x46_18 ∧ Aside0 (impl_isTakingLarge.j1 kq t553 x46_18 a0_0 l0_1 l0_2 a0_3 a0_4 a0_5 a0_6 a0_7 = some r) ∧ Aside0 (kq ≤ kj4) ∧ Aside0 (wc.heap[gb551]? = some (.cells #[.int .i64 a0_0, (.slice A0_1 l0_1.length c0_1), (.slice A0_2 l0_2.length c0_2), .int .u32 a0_3, .int .i64 a0_4, .int .i64 a0_5, .int .i64 a0_6, .int .u32 a0_7] 49 (0, 0))) ∧ Aside0 (Below w.heap.size w wc))
    case first =>
     have H := HC19.out
     clear HC19
     replace H := igt H
     rcases H with ⟨c20b0, H⟩ | ⟨c20b0, H⟩
     ·(first | rw [c20b0] | (simp only [i64_w, i32_w]; rw [c20b0]) | (simp only [c20b2, Bool.not_true, Bool.not_false]) | (simp only [c20b1, Bool.not_true, Bool.not_false]) | skip)
      have H' := Aside0.mk H
      clear H
      obtain ⟨z21_0, z21_1, z21_2, z21_3, z21_4, z21_5, z21_6, z21_7⟩ := ca8 BK551
      obtain ⟨f21_0, f21_1, f21_2, f21_3, f21_4, f21_5, f21_6, f21_7⟩ := fa8 BK551
      go_wp2
      go_meet
      case rel => exact ⟨_, (decide ((wrap64 (a0_5 + t553)) > a1)), ev, H', ⟨by have := HJ4.out; first | omega | exact Nat.le_refl _⟩, ⟨bk BK551⟩, ⟨bw⟩⟩
     ·(first | rw [c20b0] | (simp only [i64_w, i32_w]; rw [c20b0]) | (simp only [c20b2, Bool.not_true, Bool.not_false]) | (simp only [c20b1, Bool.not_true, Bool.not_false]) | skip)
      replace H := ieq H
      rcases H with ⟨c22b0, c22b1, H⟩ | ⟨c22, c22b0, c22b1, H⟩
      ·have H' := Aside0.mk H
       clear H
       obtain ⟨z23_0, z23_1, z23_2, z23_3, z23_4, z23_5, z23_6, z23_7⟩ := ca8 BK551
       obtain ⟨f23_0, f23_1, f23_2, f23_3, f23_4, f23_5, f23_6, f23_7⟩ := fa8 BK551
       go_wp2
       go_meet
       case rel => exact ⟨_, (decide ((wrap64 (a0_5 + t553)) > a1)), ev, H', ⟨by have := HJ4.out; first | omega | exact Nat.le_refl _⟩, ⟨bk BK551⟩, ⟨bw⟩⟩
      ·have H' := Aside0.mk H
       clear H
       obtain ⟨z24_0, z24_1, z24_2, z24_3, z24_4, z24_5, z24_6, z24_7⟩ := ca8 BK551
       obtain ⟨f24_0, f24_1, f24_2, f24_3, f24_4, f24_5, f24_6, f24_7⟩ := fa8 BK551
       go_wp2
       go_meet
       case rel => exact ⟨_, (false), ev, H', ⟨by have := HJ4.out; first | omega | exact Nat.le_refl _⟩, ⟨bk BK551⟩, ⟨bw⟩⟩
    case rest =>
     clear HC19
     try clear c18
     (try clear z7_0 z7_1 z7_2 z7_3 z7_4 z7_5 z7_6 z7_7)
     (try clear f7_0 f7_1 f7_2 f7_3 f7_4 f7_5 f7_6 f7_7)
     obtain ⟨kq, x46_18, rfl, HA, HJ18, BK551, HB⟩ := hcut
     cases kq with
     | zero => exact absurd HA.out (by simp [impl_isTakingLarge.j1])
     | succ kj18 =>
      have H := HA.out
      clear HA
      simp only [impl_isTakingLarge.j1] at H
      replace H := ib H
      rcases H with ⟨rfl, H⟩ | ⟨rfl, H⟩
      ·obtain rfl := Option.some.inj H
       go_wp2
       go_ret
       exact ⟨rt, bw⟩
      ·replace H := ieq H
       rcases H with ⟨c26b0, c26b1, H⟩ | ⟨c26, c26b0, c26b1, H⟩
       ·obtain rfl := Option.some.inj H
        obtain ⟨z27_0, z27_1, z27_2, z27_3, z27_4, z27_5, z27_6, z27_7⟩ := ca8 BK551
        obtain ⟨f27_0, f27_1, f27_2, f27_3, f27_4, f27_5, f27_6, f27_7⟩ := fa8 BK551
        go_wp2
        go_ret
        exact ⟨rt, bw⟩
       ·replace H := ieq H
        rcases H with ⟨c28b0, c28b1, H⟩ | ⟨c28, c28b0, c28b1, H⟩
        ·obtain rfl := Option.some.inj H
         obtain ⟨z29_0, z29_1, z29_2, z29_3, z29_4, z29_5, z29_6, z29_7⟩ := ca8 BK551
         obtain ⟨f29_0, f29_1, f29_2, f29_3, f29_4, f29_5, f29_6, f29_7⟩ := fa8 BK551
         go_wp2
         go_ret
         exact ⟨rt, bw⟩
        ·obtain rfl := Option.some.inj H
         obtain ⟨z30_0, z30_1, z30_2, z30_3, z30_4, z30_5, z30_6, z30_7⟩ := ca8 BK551
         obtain ⟨f30_0, f30_1, f30_2, f30_3, f30_4, f30_5, f30_6, f30_7⟩ := fa8 BK551
         go_wp2
         go_ret
         exact ⟨rt, bw⟩

end Go.Proofs.YtobboonnfocalaaGreatDoor.PG1
