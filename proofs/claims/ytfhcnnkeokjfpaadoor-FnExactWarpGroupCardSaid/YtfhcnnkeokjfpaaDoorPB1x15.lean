/- What functions of the program compute, each as a Lean function, and that the run comes to just that. Conditions: none. (Laid by this session's own program.) -/
import Derived.Test.YtfhcnnkeokjfpaaDoorT
import Derived.Test.YtfhcnnkeokjfpaaDoorPB1x0
import Derived.Test.YtfhcnnkeokjfpaaDoorPB1x9
import Derived.Test.YtfhcnnkeokjfpaaDoorPB1x13
import Derived.Test.YtfhcnnkeokjfpaaDoorPB1x14
namespace Go.Proofs.YtfhcnnkeokjfpaaDoor.PB1
open Go.RowKit Go.Proofs.YtfhcnnkeokjfpaaDoorW.PrintWords Go.Proofs.YtfhcnnkeokjfpaaDoorW.PrintLast Go.Proofs.YtfhcnnkeokjfpaaDoorW.PrintMore Go.Proofs.YtfhcnnkeokjfpaaDoor.T
attribute [local go_sem] max2_int min2_int max_two min_two max_three min_three max_four min_four   -- for this text's walks alone
set_option linter.unusedVariables false
set_option linter.unusedSimpArgs false

/-! ### impl_isGiving: function 75 -/
def impl_isGiving.f (k : Nat) (a0_0 : Int) (l0_1 : List Int) (l0_2 : List Int) (a0_3 : Int) (a0_4 : Int) (a0_5 : Int) (a0_6 : Int) (a0_7 : Int) (a1 : Int) : Option (Bool) := if a0_4 = 0 then (if a0_5 = 0 then (if a0_6 = 0 then (some (a0_7 == 0)) else (some false)) else (some false)) else (if a0_4 = 1 then (if a0_5 = 0 then (if a0_6 = 0 then ((impl_Warp_lead.f a0_0 l0_1 l0_2 a0_3 a0_4 a0_5 a0_6 a0_7).bind fun t275 => (if t275 < (wrap64 (16 * a1)) then ((impl_Warp_lead.f a0_0 l0_1 l0_2 a0_3 a0_4 a0_5 a0_6 a0_7).bind fun t276 => ((impl_mayGive.f k a0_7 (Int.tmod t276 16)).bind fun t277 => (some t277))) else (some false))) else (some false)) else (some false)) else (if a0_4 = 2 then ((impl_within.f a0_6 1 a1).bind fun t278 => (if t278 = true then (if a0_5 ≤ (wrap64 (a1 - a0_6)) then (some (a0_7 == 0)) else (some false)) else (some false))) else (some false)))
theorem impl_isGiving.mono : ∀ a0 a1 a2 a3 a4 a5 a6 a7 a8 k, LeO (impl_isGiving.f k a0 a1 a2 a3 a4 a5 a6 a7 a8) (impl_isGiving.f (k + 1) a0 a1 a2 a3 a4 a5 a6 a7 a8) := by
  intro a0 a1 a2 a3 a4 a5 a6 a7 a8 k
  unfold impl_isGiving.f
  repeat' first
    | (with_reducible first | exact impl_mayGive.mono .. | exact LeO.refl _ | exact LeO.none _ | refine LeO.ite ?_ ?_ | refine LeO.bind ?_ (fun _ => ?_))
    | exact LeO.none _ | refine LeO.ite ?_ ?_ | refine LeO.bind ?_ (fun _ => ?_)
def impl_isGiving.T5 : Bool × List (List Nat × List Nat) := (true, [([], []), ([0], [0]), ([1], [1]), ([2], [2]), ([3], [3]), ([4, 3], [3, 4]), ([5, 3], [3, 5]), ([3, 6], [3, 6]), ([7, 3], [7]), ([8], [8]), ([9, 8, 8], [8, 9]), ([8], [8]), ([11, 8], [8, 11]), ([10, 12, 8], [8, 10, 12]), ([8, 13], [8, 13]), ([14, 10], [14]), ([15], [15]), ([16, 15], [15, 16]), ([15], [15]), ([18, 15, 15], [15, 18]), ([19, 15], [15, 19]), ([17, 20, 19, 15], [15, 17, 20]), ([15, 21], [15, 21]), ([22, 21, 0, 1, 2, 3, 4, 5, 6, 7, 8, 9, 10, 11, 12, 13, 14, 15, 16, 17, 18, 19, 20, 21, 22], [22])])
def impl_isGiving.B5 : List Nat := [0, 1, 3, 7, 15, 31, 63, 127, 255, 511, 1023, 511, 2559, 8191, 16383, 32767, 65535, 131071, 65535, 327679, 851967, 2097151, 4194303, 8388607]
theorem impl_isGiving.tab5 : rtab .any (opsOf Tryd.f75 5) = impl_isGiving.T5 := kr
theorem impl_isGiving.bits5 : waitsOk impl_isGiving.T5.2 impl_isGiving.B5 = true := kr
set_option maxHeartbeats 2000000 in
set_option maxRecDepth 100000 in
theorem impl_isGiving.calls (k : Nat) (a0_0 : Int) (A0_1 : Option Addr) (c0_1 : Nat) (l0_1 : List Int) (A0_2 : Option Addr) (c0_2 : Nat) (l0_2 : List Int) (a0_3 : Int) (a0_4 : Int) (a0_5 : Int) (a0_6 : Int) (a0_7 : Int) (a1 : Int) (r : Bool) (w : World) (hr0_1 : Kd.C (Kd.int .i64) w A0_1 l0_1.length l0_1) (hc0_1 : l0_1.length ≤ c0_1) (hr0_2 : Kd.C (Kd.int .i64) w A0_2 l0_2.length l0_2) (hc0_2 : l0_2.length ≤ c0_2) (h : impl_isGiving.f k a0_0 l0_1 l0_2 a0_3 a0_4 a0_5 a0_6 a0_7 a1 = some r) (hT : GT w) :
    Calls Tryd.prog 75 #[.agg #[.int .i64 a0_0, .slice A0_1 l0_1.length c0_1, .slice A0_2 l0_2.length c0_2, .int .u32 a0_3, .int .i64 a0_4, .int .i64 a0_5, .int .i64 a0_6, .int .u32 a0_7], .int .i64 a1] w fun e w' => e = .returned (.bool r) ∧ Below w.heap.size w w' := by
  have hu28 := Tryd.underlying28
  have HR0_1 := Aside0.mk hr0_1
  have HC0_1 := Aside0.mk hc0_1
  clear hr0_1 hc0_1
  have HR0_2 := Aside0.mk hr0_2
  have HC0_2 := Aside0.mk hc0_2
  clear hr0_2 hc0_2
  have HB := Aside0.mk (Below.refl w.heap.size w)
  unfold impl_isGiving.f at h
  have H := h
  clear h
  have HU3 := Aside0.mk H
  clear H
  go_enter Tryd.func75, Tryd.ntmps75
  go_upto_if 7 with (first | ((with_reducible refine gd 2 ?_); refine bx 2 28 #[.int .i64 a0_0, .slice A0_1 l0_1.length c0_1, .slice A0_2 l0_2.length c0_2, .int .u32 a0_3, .int .i64 a0_4, .int .i64 a0_5, .int .i64 a0_6, .int .u32 a0_7] ?_; clear HB; intro gb274 w4 hg BK274 hb GE274 HB; clear hb hg; obtain ⟨z5_0, z5_1, z5_2, z5_3, z5_4, z5_5, z5_6, z5_7⟩ := ca8 BK274; obtain ⟨f5_0, f5_1, f5_2, f5_3, f5_4, f5_5, f5_6, f5_7⟩ := fa8 BK274))
  (try refine ap ?_)
  have H := HU3.out
  clear HU3
  replace H := ieq H
  rcases H with ⟨c6b0, c6b1, H⟩ | ⟨c6, c6b0, c6b1, H⟩
  · (first | rw [c6b0] | (simp only [i64_w, i32_w]; rw [c6b0]) | (simp only [c6b2, Bool.not_true, Bool.not_false]) | (simp only [c6b1, Bool.not_true, Bool.not_false]) | skip)
    replace H := ieq H
    rcases H with ⟨c7b0, c7b1, H⟩ | ⟨c7, c7b0, c7b1, H⟩
    · replace H := ieq H
      rcases H with ⟨c8b0, c8b1, H⟩ | ⟨c8, c8b0, c8b1, H⟩
      · obtain rfl := Option.some.inj H
        obtain ⟨z9_0, z9_1, z9_2, z9_3, z9_4, z9_5, z9_6, z9_7⟩ := ca8 BK274
        obtain ⟨f9_0, f9_1, f9_2, f9_3, f9_4, f9_5, f9_6, f9_7⟩ := fa8 BK274
        go_wp2
        go_ret
        exact ⟨rt, bw⟩
      · obtain rfl := Option.some.inj H
        obtain ⟨z10_0, z10_1, z10_2, z10_3, z10_4, z10_5, z10_6, z10_7⟩ := ca8 BK274
        obtain ⟨f10_0, f10_1, f10_2, f10_3, f10_4, f10_5, f10_6, f10_7⟩ := fa8 BK274
        go_wp2
        go_ret
        exact ⟨rt, bw⟩
    · obtain rfl := Option.some.inj H
      obtain ⟨z11_0, z11_1, z11_2, z11_3, z11_4, z11_5, z11_6, z11_7⟩ := ca8 BK274
      obtain ⟨f11_0, f11_1, f11_2, f11_3, f11_4, f11_5, f11_6, f11_7⟩ := fa8 BK274
      go_wp2
      go_ret
      exact ⟨rt, bw⟩
  · (first | rw [c6b0] | (simp only [i64_w, i32_w]; rw [c6b0]) | (simp only [c6b2, Bool.not_true, Bool.not_false]) | (simp only [c6b1, Bool.not_true, Bool.not_false]) | skip)
    replace H := ieq H
    rcases H with ⟨c12b0, c12b1, H⟩ | ⟨c12, c12b0, c12b1, H⟩
    · replace H := ieq H
      rcases H with ⟨c13b0, c13b1, H⟩ | ⟨c13, c13b0, c13b1, H⟩
      · replace H := ieq H
        rcases H with ⟨c14b0, c14b1, H⟩ | ⟨c14, c14b0, c14b1, H⟩
        · replace H := bn H
          obtain ⟨t275, A15, H⟩ := H
          try dsimp only at H
          replace H := ilt H
          rcases H with ⟨c16b0, H⟩ | ⟨c16b0, H⟩
          · replace H := bn H
            obtain ⟨t276, A17, H⟩ := H
            try dsimp only at H
            replace H := bn H
            obtain ⟨t277, A18, H⟩ := H
            try dsimp only at H
            obtain rfl := Option.some.inj H
            try go_wp2
            replace BK274 := bd BK274
            replace HB := hd HB
            refine st 24 (fun w' => CA w' gb274 0 [.int .i64 a0_0, .slice A0_1 l0_1.length c0_1, .slice A0_2 l0_2.length c0_2, .int .u32 a0_3, .int .i64 a0_4, .int .i64 a0_5, .int .i64 a0_6, .int .u32 a0_7]) [] (cx BK274) impl_isGiving.tab5 impl_isGiving.bits5 ?_; intro hHeld HT_ HW_
            generalize w4.drew = w19 at BK274 HB hHeld ⊢
            refine pu 0 24 (bl 24 1) ?_
            refine tk 1 25 (bl 24 3) ?_
            refine pu 2 26 (bl 24 7) ?_
            refine pu 3 27 (bl 24 15) ?_
            refine pu 4 28 (bl 24 31) ?_
            refine tk 5 29 (bl 24 63) ?_
            refine pu 6 30 (bl 24 127) ?_
            refine pu 7 31 (bl 24 255) ?_
            refine pu 8 32 (bl 24 511) ?_
            refine pu 11 35 (bl 24 2559) ?_
            refine pu 12 36 (bl 24 6655) ?_
            refine tk 9 33 (bl 24 7167) ?_
            refine on_ 10 (some 34) (bl 24 8191) (fun K hK => ?_)
            refine gq Tryd.func82 (impl_Warp_lead.calls _ A0_1 c0_1 _ A0_2 c0_2 _ _ _ _ _ _ _ _ (cb HR0_1) HC0_1.out (cb HR0_2) HC0_2.out A15.out (hT.below bw)) ?_
            rintro e w20 ⟨rfl, hb⟩
            refine ⟨_, rfl, ?_⟩
            replace BK274 := b_ BK274 hb
            replace HB := hs hb
            (try clear hb)
            refine hK.out _ _ (cx BK274) (fun hHeld => ?_)
            clear hK K
            refine nm ?_
            refine pu 13 37 (bl 24 16383) ?_
            refine pu 14 38 (bl 24 32767) ?_
            refine pu 15 39 (bl 24 65535) ?_
            refine pu 16 40 (bl 24 131071) ?_
            refine tk 17 41 (bl 24 262143) ?_
            refine tk 18 42 (bl 24 524287) ?_
            refine on_ 19 (some 43) (bl 24 1048575) (fun K hK => ?_)
            refine gq Tryd.func82 (impl_Warp_lead.calls _ A0_1 c0_1 _ A0_2 c0_2 _ _ _ _ _ _ _ _ (cb HR0_1) HC0_1.out (cb HR0_2) HC0_2.out A17.out (hT.below bw)) ?_
            rintro e w21 ⟨rfl, hb⟩
            refine ⟨_, rfl, ?_⟩
            replace BK274 := b_ BK274 hb
            replace HB := hs hb
            (try clear hb)
            refine hK.out _ _ (cx BK274) (fun hHeld => ?_)
            clear hK K
            refine nm ?_
            refine pu 20 44 (bl 24 2097151) ?_
            refine on_ 21 (some 45) (bl 24 4194303) (fun K hK => ?_)
            refine gq Tryd.func102 (impl_mayGive.calls _ _ _ _ _ A18.out) ?_
            rintro e w22 ⟨rfl, hb⟩
            refine ⟨_, rfl, ?_⟩
            replace BK274 := b_ BK274 hb
            replace HB := hs hb
            (try clear hb)
            refine hK.out _ _ (cx BK274) (fun hHeld => ?_)
            clear hK K
            refine nm ?_
            refine pu 22 46 (bl 24 8388607) ?_
            refine pu 23 4 (bl 24 16777215) ?_
            refine dn ?_ _
            try go_wp2
            go_ret
            exact ⟨rt, bw⟩
          · obtain rfl := Option.some.inj H
            try go_wp2
            replace BK274 := bd BK274
            replace HB := hd HB
            refine st 24 (fun w' => CA w' gb274 0 [.int .i64 a0_0, .slice A0_1 l0_1.length c0_1, .slice A0_2 l0_2.length c0_2, .int .u32 a0_3, .int .i64 a0_4, .int .i64 a0_5, .int .i64 a0_6, .int .u32 a0_7]) [] (cx BK274) impl_isGiving.tab5 impl_isGiving.bits5 ?_; intro hHeld HT_ HW_
            generalize w4.drew = w23 at BK274 HB hHeld ⊢
            refine pu 0 24 (bl 24 1) ?_
            refine tk 1 25 (bl 24 3) ?_
            refine pu 2 26 (bl 24 7) ?_
            refine pu 3 27 (bl 24 15) ?_
            refine pu 4 28 (bl 24 31) ?_
            refine tk 5 29 (bl 24 63) ?_
            refine pu 6 30 (bl 24 127) ?_
            refine pu 7 31 (bl 24 255) ?_
            refine pu 8 32 (bl 24 511) ?_
            refine pu 11 35 (bl 24 2559) ?_
            refine pu 12 36 (bl 24 6655) ?_
            refine tk 9 33 (bl 24 7167) ?_
            refine on_ 10 (some 34) (bl 24 8191) (fun K hK => ?_)
            refine gq Tryd.func82 (impl_Warp_lead.calls _ A0_1 c0_1 _ A0_2 c0_2 _ _ _ _ _ _ _ _ (cb HR0_1) HC0_1.out (cb HR0_2) HC0_2.out A15.out (hT.below bw)) ?_
            rintro e w24 ⟨rfl, hb⟩
            refine ⟨_, rfl, ?_⟩
            replace BK274 := b_ BK274 hb
            replace HB := hs hb
            (try clear hb)
            refine hK.out _ _ (cx BK274) (fun hHeld => ?_)
            clear hK K
            refine nm ?_
            refine pu 13 37 (bl 24 16383) ?_
            refine pu 14 38 (bl 24 32767) ?_
            refine pu 15 39 (bl 24 65535) ?_
            refine pf 16 40 (bl 24 131071) ?_
            refine pf 17 41 (bl 24 262143) ?_
            refine pf 18 42 (bl 24 524287) ?_
            refine pf 19 43 (bl 24 1048575) ?_
            refine pf 20 44 (bl 24 2097151) ?_
            refine pf 21 45 (bl 24 4194303) ?_
            refine pu 22 46 (bl 24 8388607) ?_
            refine pu 23 4 (bl 24 16777215) ?_
            refine dn ?_ _
            try go_wp2
            go_ret
            exact ⟨rt, bw⟩
        · obtain rfl := Option.some.inj H
          try go_wp2
          replace BK274 := bd BK274
          replace HB := hd HB
          refine st 24 (fun w' => CA w' gb274 0 [.int .i64 a0_0, .slice A0_1 l0_1.length c0_1, .slice A0_2 l0_2.length c0_2, .int .u32 a0_3, .int .i64 a0_4, .int .i64 a0_5, .int .i64 a0_6, .int .u32 a0_7]) [] (cx BK274) impl_isGiving.tab5 impl_isGiving.bits5 ?_; intro hHeld HT_ HW_
          generalize w4.drew = w25 at BK274 HB hHeld ⊢
          refine pu 0 24 (bl 24 1) ?_
          refine tk 1 25 (bl 24 3) ?_
          refine pu 2 26 (bl 24 7) ?_
          refine pu 3 27 (bl 24 15) ?_
          refine pu 4 28 (bl 24 31) ?_
          refine tk 5 29 (bl 24 63) ?_
          refine pu 6 30 (bl 24 127) ?_
          refine pu 7 31 (bl 24 255) ?_
          refine pu 8 32 (bl 24 511) ?_
          refine pf 9 33 (bl 24 1023) ?_
          refine pf 10 34 (bl 24 2047) ?_
          refine pf 11 35 (bl 24 4095) ?_
          refine pf 12 36 (bl 24 8191) ?_
          refine pf 13 37 (bl 24 16383) ?_
          refine pu 14 38 (bl 24 32767) ?_
          refine pu 15 39 (bl 24 65535) ?_
          refine pf 16 40 (bl 24 131071) ?_
          refine pf 17 41 (bl 24 262143) ?_
          refine pf 18 42 (bl 24 524287) ?_
          refine pf 19 43 (bl 24 1048575) ?_
          refine pf 20 44 (bl 24 2097151) ?_
          refine pf 21 45 (bl 24 4194303) ?_
          refine pu 22 46 (bl 24 8388607) ?_
          refine pu 23 4 (bl 24 16777215) ?_
          refine dn ?_ _
          try go_wp2
          go_ret
          exact ⟨rt, bw⟩
      · obtain rfl := Option.some.inj H
        try go_wp2
        replace BK274 := bd BK274
        replace HB := hd HB
        refine st 24 (fun w' => CA w' gb274 0 [.int .i64 a0_0, .slice A0_1 l0_1.length c0_1, .slice A0_2 l0_2.length c0_2, .int .u32 a0_3, .int .i64 a0_4, .int .i64 a0_5, .int .i64 a0_6, .int .u32 a0_7]) [] (cx BK274) impl_isGiving.tab5 impl_isGiving.bits5 ?_; intro hHeld HT_ HW_
        generalize w4.drew = w26 at BK274 HB hHeld ⊢
        refine pu 0 24 (bl 24 1) ?_
        refine tk 1 25 (bl 24 3) ?_
        refine pu 2 26 (bl 24 7) ?_
        refine pu 3 27 (bl 24 15) ?_
        refine pf 4 28 (bl 24 31) ?_
        refine pf 5 29 (bl 24 63) ?_
        refine pf 6 30 (bl 24 127) ?_
        refine pu 7 31 (bl 24 255) ?_
        refine pu 8 32 (bl 24 511) ?_
        refine pf 9 33 (bl 24 1023) ?_
        refine pf 10 34 (bl 24 2047) ?_
        refine pf 11 35 (bl 24 4095) ?_
        refine pf 12 36 (bl 24 8191) ?_
        refine pf 13 37 (bl 24 16383) ?_
        refine pu 14 38 (bl 24 32767) ?_
        refine pu 15 39 (bl 24 65535) ?_
        refine pf 16 40 (bl 24 131071) ?_
        refine pf 17 41 (bl 24 262143) ?_
        refine pf 18 42 (bl 24 524287) ?_
        refine pf 19 43 (bl 24 1048575) ?_
        refine pf 20 44 (bl 24 2097151) ?_
        refine pf 21 45 (bl 24 4194303) ?_
        refine pu 22 46 (bl 24 8388607) ?_
        refine pu 23 4 (bl 24 16777215) ?_
        refine dn ?_ _
        try go_wp2
        go_ret
        exact ⟨rt, bw⟩
    · replace H := ieq H
      rcases H with ⟨c27b0, c27b1, H⟩ | ⟨c27, c27b0, c27b1, H⟩
      · replace H := bn H
        obtain ⟨t278, A28, H⟩ := H
        try dsimp only at H
        replace H := ib H
        rcases H with ⟨rfl, H⟩ | ⟨rfl, H⟩
        · replace H := ile H
          rcases H with ⟨c30b0, H⟩ | ⟨c30b0, H⟩
          · obtain rfl := Option.some.inj H
            obtain ⟨z31_0, z31_1, z31_2, z31_3, z31_4, z31_5, z31_6, z31_7⟩ := ca8 BK274
            obtain ⟨f31_0, f31_1, f31_2, f31_3, f31_4, f31_5, f31_6, f31_7⟩ := fa8 BK274
            go_wp2_with (first | ((with_reducible refine gf 72 ?_); refine gc Tryd.func72 (some 52) (impl_within.calls _ _ _ _ _ A28.out) ?_; rintro e w' ⟨rfl, ⟨nd, rfl⟩⟩; refine ⟨_, rfl, ?_⟩))
            go_ret
            exact ⟨rt, bw⟩
          · obtain rfl := Option.some.inj H
            obtain ⟨z32_0, z32_1, z32_2, z32_3, z32_4, z32_5, z32_6, z32_7⟩ := ca8 BK274
            obtain ⟨f32_0, f32_1, f32_2, f32_3, f32_4, f32_5, f32_6, f32_7⟩ := fa8 BK274
            go_wp2_with (first | ((with_reducible refine gf 72 ?_); refine gc Tryd.func72 (some 52) (impl_within.calls _ _ _ _ _ A28.out) ?_; rintro e w' ⟨rfl, ⟨nd, rfl⟩⟩; refine ⟨_, rfl, ?_⟩))
            go_ret
            exact ⟨rt, bw⟩
        · obtain rfl := Option.some.inj H
          obtain ⟨z33_0, z33_1, z33_2, z33_3, z33_4, z33_5, z33_6, z33_7⟩ := ca8 BK274
          obtain ⟨f33_0, f33_1, f33_2, f33_3, f33_4, f33_5, f33_6, f33_7⟩ := fa8 BK274
          go_wp2_with (first | ((with_reducible refine gf 72 ?_); refine gc Tryd.func72 (some 52) (impl_within.calls _ _ _ _ _ A28.out) ?_; rintro e w' ⟨rfl, ⟨nd, rfl⟩⟩; refine ⟨_, rfl, ?_⟩))
          go_ret
          exact ⟨rt, bw⟩
      · obtain rfl := Option.some.inj H
        go_wp2
        go_ret
        exact ⟨rt, bw⟩

end Go.Proofs.YtfhcnnkeokjfpaaDoor.PB1
