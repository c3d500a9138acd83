/- What functions of the program compute, each as a Lean function, and that the run comes to just that. Conditions: none. (Laid by this session's own program.) -/
import Derived.Test.YtfhcnnkeokjfpaaDoorT
import Derived.Test.YtfhcnnkeokjfpaaDoorPB1x0
import Derived.Test.YtfhcnnkeokjfpaaDoorPB1x13
import Derived.Test.YtfhcnnkeokjfpaaDoorPB1x14
namespace Go.Proofs.YtfhcnnkeokjfpaaDoor.PB1
open Go.RowKit Go.Proofs.YtfhcnnkeokjfpaaDoorW.PrintWords Go.Proofs.YtfhcnnkeokjfpaaDoorW.PrintLast Go.Proofs.YtfhcnnkeokjfpaaDoorW.PrintMore Go.Proofs.YtfhcnnkeokjfpaaDoor.T
attribute [local go_sem] max2_int min2_int max_two min_two max_three min_three max_four min_four   -- for this text's walks alone
set_option linter.unusedVariables false
set_option linter.unusedSimpArgs false

/-! ### impl_Warp_isSmall: function 76 -/
def impl_Warp_isSmall.f (a0_0 : Int) (l0_1 : List Int) (l0_2 : List Int) (a0_3 : Int) (a0_4 : Int) (a0_5 : Int) (a0_6 : Int) (a0_7 : Int) : Option (Bool) := if a0_0 = 1 then ((impl_Warp_lead.f a0_0 l0_1 l0_2 a0_3 a0_4 a0_5 a0_6 a0_7).bind fun t280 => (some (decide (t280 ≤ 16)))) else (some false)
set_option maxHeartbeats 2000000 in
set_option maxRecDepth 100000 in
theorem impl_Warp_isSmall.calls (a0_0 : Int) (A0_1 : Option Addr) (c0_1 : Nat) (l0_1 : List Int) (A0_2 : Option Addr) (c0_2 : Nat) (l0_2 : List Int) (a0_3 : Int) (a0_4 : Int) (a0_5 : Int) (a0_6 : Int) (a0_7 : Int) (r : Bool) (w : World) (hr0_1 : Kd.C (Kd.int .i64) w A0_1 l0_1.length l0_1) (hc0_1 : l0_1.length ≤ c0_1) (hr0_2 : Kd.C (Kd.int .i64) w A0_2 l0_2.length l0_2) (hc0_2 : l0_2.length ≤ c0_2) (h : impl_Warp_isSmall.f a0_0 l0_1 l0_2 a0_3 a0_4 a0_5 a0_6 a0_7 = some r) (hT : GT w) :
    Calls Tryd.prog 76 #[.agg #[.int .i64 a0_0, .slice A0_1 l0_1.length c0_1, .slice A0_2 l0_2.length c0_2, .int .u32 a0_3, .int .i64 a0_4, .int .i64 a0_5, .int .i64 a0_6, .int .u32 a0_7]] w fun e w' => e = .returned (.bool r) ∧ Below w.heap.size w w' := by
  have hu28 := Tryd.underlying28
  have HR0_1 := Aside0.mk hr0_1
  have HC0_1 := Aside0.mk hc0_1
  clear hr0_1 hc0_1
  have HR0_2 := Aside0.mk hr0_2
  have HC0_2 := Aside0.mk hc0_2
  clear hr0_2 hc0_2
  have HB := Aside0.mk (Below.refl w.heap.size w)
  unfold impl_Warp_isSmall.f at h
  have H := h
  clear h
  replace H := ieq H
  rcases H with ⟨c2b0, c2b1, H⟩ | ⟨c2, c2b0, c2b1, H⟩
  · replace H := bn H
    obtain ⟨t280, A3, H⟩ := H
    try dsimp only at H
    obtain rfl := Option.some.inj H
    go_enter Tryd.func76, Tryd.ntmps76
    go_wp2_with (first | ((with_reducible refine gd 1 ?_); refine bx 1 28 #[.int .i64 a0_0, .slice A0_1 l0_1.length c0_1, .slice A0_2 l0_2.length c0_2, .int .u32 a0_3, .int .i64 a0_4, .int .i64 a0_5, .int .i64 a0_6, .int .u32 a0_7] ?_; clear HB; intro gb279 w4 hg BK279 hb GE279 HB; clear hb hg; obtain ⟨z5_0, z5_1, z5_2, z5_3, z5_4, z5_5, z5_6, z5_7⟩ := ca8 BK279; obtain ⟨f5_0, f5_1, f5_2, f5_3, f5_4, f5_5, f5_6, f5_7⟩ := fa8 BK279) | (go_at_call 82; (with_reducible refine (impl_Warp_lead.calls _ _ _ _ _ _ _ _ _ _ _ _ _ _ ?side1 ?side2 ?side3 ?side4 A3.out (hT.below bw)).mono ?_); (case side1 => repeat (first | exact (Kd.C_below HR0_1.out HB.out) | (with_reducible refine Kd.C_alloc ?_ _) | (with_reducible refine Kd.C_drewN ?_ _) | (with_reducible refine Kd.C_drew ?_))); (case side2 => exact HC0_1.out); (case side3 => repeat (first | exact (Kd.C_below HR0_2.out HB.out) | (with_reducible refine Kd.C_alloc ?_ _) | (with_reducible refine Kd.C_drewN ?_ _) | (with_reducible refine Kd.C_drew ?_))); (case side4 => exact HC0_2.out); rintro e w6 ⟨rfl, hb⟩; replace BK279 := b_ BK279 hb; replace HB := hs hb; try clear hb))
    go_ret
    exact ⟨rt, bw⟩
  · obtain rfl := Option.some.inj H
    go_enter Tryd.func76, Tryd.ntmps76
    go_wp2_with (first | ((with_reducible refine gd 1 ?_); refine bx 1 28 #[.int .i64 a0_0, .slice A0_1 l0_1.length c0_1, .slice A0_2 l0_2.length c0_2, .int .u32 a0_3, .int .i64 a0_4, .int .i64 a0_5, .int .i64 a0_6, .int .u32 a0_7] ?_; clear HB; intro gb279 w7 hg BK279 hb GE279 HB; clear hb hg; obtain ⟨z8_0, z8_1, z8_2, z8_3, z8_4, z8_5, z8_6, z8_7⟩ := ca8 BK279; obtain ⟨f8_0, f8_1, f8_2, f8_3, f8_4, f8_5, f8_6, f8_7⟩ := fa8 BK279))
    go_ret
    exact ⟨rt, bw⟩

/-! ### impl_isTakingSmall: function 77 -/
def impl_isTakingSmall.j0 : Nat → Int → Bool → Int → List Int → List Int → Int → Int → Int → Int → Int → Option (Bool)
  | 0, _, _, _, _, _, _, _, _, _, _ => none
  | k + 1, x1, x13, x297000, x297001, x297002, x297003, x297004, x297005, x297006, x297007 => if x13 = true then (some false) else (if x297004 = 0 then (some (x297007 == 0)) else (if x297004 = 1 then (if x297005 < x1 then ((impl_Warp_lead.f x297000 x297001 x297002 x297003 x297004 x297005 x297006 x297007).bind fun t297 => ((impl_ClassOf.f k t297).bind fun t298 => ((impl_Room.f k x297007 t298).bind fun t299 => (some (decide (t299 > 0)))))) else (some false)) else (some false)))
def impl_isTakingSmall.f (k : Nat) (a0_0 : Int) (l0_1 : List Int) (l0_2 : List Int) (a0_3 : Int) (a0_4 : Int) (a0_5 : Int) (a0_6 : Int) (a0_7 : Int) (a1 : Int) : Option (Bool) := if a0_6 = 0 then (impl_isTakingSmall.j0 k a1 (decide (a0_5 > a1)) a0_0 l0_1 l0_2 a0_3 a0_4 a0_5 a0_6 a0_7) else (impl_isTakingSmall.j0 k a1 true a0_0 l0_1 l0_2 a0_3 a0_4 a0_5 a0_6 a0_7)
theorem impl_isTakingSmall.mono_l : ∀ k, (∀ y0 y1 y2 y3 y4 y5 y6 y7 y8 y9, LeO (impl_isTakingSmall.j0 k y0 y1 y2 y3 y4 y5 y6 y7 y8 y9) (impl_isTakingSmall.j0 (k + 1) y0 y1 y2 y3 y4 y5 y6 y7 y8 y9))
  | 0 => fun _ _ _ _ _ _ _ _ _ _ r h => by simp [impl_isTakingSmall.j0] at h
  | k + 1 => by
    have ih0 := impl_isTakingSmall.mono_l k
    · intro y0 y1 y2 y3 y4 y5 y6 y7 y8 y9
      unfold impl_isTakingSmall.j0
      repeat' first
        | (with_reducible first | exact ih0 .. | exact impl_ClassOf.mono .. | exact impl_Room.mono .. | exact LeO.refl _ | exact LeO.none _ | refine LeO.ite ?_ ?_ | refine LeO.bind ?_ (fun _ => ?_))
        | exact LeO.none _ | refine LeO.ite ?_ ?_ | refine LeO.bind ?_ (fun _ => ?_)
theorem impl_isTakingSmall.mono : ∀ a0 a1 a2 a3 a4 a5 a6 a7 a8 k, LeO (impl_isTakingSmall.f k a0 a1 a2 a3 a4 a5 a6 a7 a8) (impl_isTakingSmall.f (k + 1) a0 a1 a2 a3 a4 a5 a6 a7 a8) := by
  intro a0 a1 a2 a3 a4 a5 a6 a7 a8 k
  have ih0 := impl_isTakingSmall.mono_l k
  unfold impl_isTakingSmall.f
  repeat' first
    | (with_reducible first | exact ih0 .. | exact impl_ClassOf.mono .. | exact impl_Room.mono .. | exact LeO.refl _ | exact LeO.none _ | refine LeO.ite ?_ ?_ | refine LeO.bind ?_ (fun _ => ?_))
    | exact LeO.none _ | refine LeO.ite ?_ ?_ | refine LeO.bind ?_ (fun _ => ?_)
def impl_isTakingSmall.T7 : Bool × List (List Nat × List Nat) := (true, [([], []), ([0], [0]), ([], []), ([1, 2], [1, 2]), ([3], [3]), ([4], [4]), ([5, 4], [4, 5]), ([4], [4]), ([7, 4, 4], [4, 7]), ([8, 8, 4], [4, 8]), ([6, 9, 9, 4], [4, 6, 9]), ([10, 4], [4, 10]), ([4, 11], [4, 11]), ([12, 10, 0, 1, 2, 3, 4, 5, 6, 7, 8, 9, 10, 11, 12], [12])])
def impl_isTakingSmall.B7 : List Nat := [0, 1, 0, 7, 15, 31, 63, 31, 159, 415, 1023, 2047, 4095, 8191]
theorem impl_isTakingSmall.tab7 : rtab .any (opsOf Tryd.f77 7) = impl_isTakingSmall.T7 := kr
theorem impl_isTakingSmall.bits7 : waitsOk impl_isTakingSmall.T7.2 impl_isTakingSmall.B7 = true := kr
set_option maxHeartbeats 2000000 in
set_option maxRecDepth 100000 in
theorem impl_isTakingSmall.calls (k : Nat) (a0_0 : Int) (A0_1 : Option Addr) (c0_1 : Nat) (l0_1 : List Int) (A0_2 : Option Addr) (c0_2 : Nat) (l0_2 : List Int) (a0_3 : Int) (a0_4 : Int) (a0_5 : Int) (a0_6 : Int) (a0_7 : Int) (a1 : Int) (r : Bool) (w : World) (hr0_1 : Kd.C (Kd.int .i64) w A0_1 l0_1.length l0_1) (hc0_1 : l0_1.length ≤ c0_1) (hr0_2 : Kd.C (Kd.int .i64) w A0_2 l0_2.length l0_2) (hc0_2 : l0_2.length ≤ c0_2) (h : impl_isTakingSmall.f k a0_0 l0_1 l0_2 a0_3 a0_4 a0_5 a0_6 a0_7 a1 = some r) (hT : GT w) :
    Calls Tryd.prog 77 #[.agg #[.int .i64 a0_0, .slice A0_1 l0_1.length c0_1, .slice A0_2 l0_2.length c0_2, .int .u32 a0_3, .int .i64 a0_4, .int .i64 a0_5, .int .i64 a0_6, .int .u32 a0_7], .int .i64 a1] w fun e w' => e = .returned (.bool r) ∧ Below w.heap.size w w' := by
  have hu28 := Tryd.underlying28
  have HR0_1 := Aside0.mk hr0_1
  have HC0_1 := Aside0.mk hc0_1
  clear hr0_1 hc0_1
  have HR0_2 := Aside0.mk hr0_2
  have HC0_2 := Aside0.mk hc0_2
  clear hr0_2 hc0_2
  have HB := Aside0.mk (Below.refl w.heap.size w)
  unfold impl_isTakingSmall.f at h
  have H := h
  clear h
  have HC3 := Aside0.mk H
  clear H
  go_enter Tryd.func77, Tryd.ntmps77
  go_upto_region 1 with (first | ((with_reducible refine gd 2 ?_); refine bx 2 28 #[.int .i64 a0_0, .slice A0_1 l0_1.length c0_1, .slice A0_2 l0_2.length c0_2, .int .u32 a0_3, .int .i64 a0_4, .int .i64 a0_5, .int .i64 a0_6, .int .u32 a0_7] ?_; clear HB; intro gb296 w4 hg BK296 hb GE296 HB; clear hb hg))
  (try refine ap ?_)
  go_cut [13] (fun v13 wc => ∃ (kq : Nat) (x13_2 : Bool), v13 = .bool x13_2 ∧ Aside0 (impl_isTakingSmall.j0 kq a1 x13_2 a0_0 l0_1 l0_2 a0_3 a0_4 a0_5 a0_6 a0_7 = some r) ∧ Aside0 (kq ≤ k) ∧ Aside0 (wc.heap[gb296]? = some (.cells #[.int .i64 a0_0, (.slice A0_1 l0_1.length c0_1), (.slice A0_2 l0_2.length c0_2), .int .u32 a0_3, .int .i64 a0_4, .int .i64 a0_5, .int .i64 a0_6, .int .u32 a0_7] 28 (0, 0))) ∧ Aside0 (Below w.heap.size w wc))
  case first =>
    have H := HC3.out
    clear HC3
    replace H := ieq H
    rcases H with ⟨c5b0, c5b1, H⟩ | ⟨c5, c5b0, c5b1, H⟩
    · (first | rw [c5b0] | (simp only [i64_w, i32_w]; rw [c5b0]) | (simp only [c5b2, Bool.not_true, Bool.not_false]) | (simp only [c5b1, Bool.not_true, Bool.not_false]) | skip)
      have H' := Aside0.mk H
      clear H
      obtain ⟨z6_0, z6_1, z6_2, z6_3, z6_4, z6_5, z6_6, z6_7⟩ := ca8 BK296
      obtain ⟨f6_0, f6_1, f6_2, f6_3, f6_4, f6_5, f6_6, f6_7⟩ := fa8 BK296
      go_wp2
      go_meet
      case rel => exact ⟨_, (decide (a0_5 > a1)), ev, H', ⟨om⟩, ⟨bk BK296⟩, ⟨bw⟩⟩
    · (first | rw [c5b0] | (simp only [i64_w, i32_w]; rw [c5b0]) | (simp only [c5b2, Bool.not_true, Bool.not_false]) | (simp only [c5b1, Bool.not_true, Bool.not_false]) | skip)
      have H' := Aside0.mk H
      clear H
      obtain ⟨z7_0, z7_1, z7_2, z7_3, z7_4, z7_5, z7_6, z7_7⟩ := ca8 BK296
      obtain ⟨f7_0, f7_1, f7_2, f7_3, f7_4, f7_5, f7_6, f7_7⟩ := fa8 BK296
      go_wp2
      go_meet
      case rel => exact ⟨_, (true), ev, H', ⟨om⟩, ⟨bk BK296⟩, ⟨bw⟩⟩
  case rest =>
    clear HC3
    obtain ⟨kq, x13_2, rfl, HA, HJ2, BK296, HB⟩ := hcut
    cases kq with
    | zero => exact absurd HA.out (by simp [impl_isTakingSmall.j0])
    | succ kj2 =>
      have H := HA.out
      clear HA
      simp only [impl_isTakingSmall.j0] at H
      replace H := ib H
      rcases H with ⟨rfl, H⟩ | ⟨rfl, H⟩
      · obtain rfl := Option.some.inj H
        go_wp2
        go_ret
        exact ⟨rt, bw⟩
      · replace H := ieq H
        rcases H with ⟨c9b0, c9b1, H⟩ | ⟨c9, c9b0, c9b1, H⟩
        · obtain rfl := Option.some.inj H
          obtain ⟨z10_0, z10_1, z10_2, z10_3, z10_4, z10_5, z10_6, z10_7⟩ := ca8 BK296
          obtain ⟨f10_0, f10_1, f10_2, f10_3, f10_4, f10_5, f10_6, f10_7⟩ := fa8 BK296
          go_wp2
          go_ret
          exact ⟨rt, bw⟩
        · replace H := ieq H
          rcases H with ⟨c11b0, c11b1, H⟩ | ⟨c11, c11b0, c11b1, H⟩
          · replace H := ilt H
            rcases H with ⟨c12b0, H⟩ | ⟨c12b0, H⟩
            · replace H := bn H
              obtain ⟨t297, A13, H⟩ := H
              try dsimp only at H
              replace H := bn H
              obtain ⟨t298, A14, H⟩ := H
              try dsimp only at H
              replace H := bn H
              obtain ⟨t299, A15, H⟩ := H
              try dsimp only at H
              obtain rfl := Option.some.inj H
              obtain ⟨z16_0, z16_1, z16_2, z16_3, z16_4, z16_5, z16_6, z16_7⟩ := ca8 BK296
              obtain ⟨f16_0, f16_1, f16_2, f16_3, f16_4, f16_5, f16_6, f16_7⟩ := fa8 BK296
              try go_wp2
              replace BK296 := bd BK296
              replace HB := hd HB
              refine st 14 (fun w' => CA w' gb296 0 [.int .i64 a0_0, .slice A0_1 l0_1.length c0_1, .slice A0_2 l0_2.length c0_2, .int .u32 a0_3, .int .i64 a0_4, .int .i64 a0_5, .int .i64 a0_6, .int .u32 a0_7]) [] (cx BK296) impl_isTakingSmall.tab7 impl_isTakingSmall.bits7 ?_; intro hHeld HT_ HW_
              generalize wc.drew = w17 at BK296 HB hHeld ⊢
              refine pu 0 23 (bl 14 1) ?_
              refine pu 2 25 (bl 14 5) ?_
              refine tk 1 24 (bl 14 7) ?_
              refine pu 3 26 (bl 14 15) ?_
              refine pu 4 27 (bl 14 31) ?_
              refine pu 5 28 (bl 14 63) ?_
              refine tk 6 29 (bl 14 127) ?_
              refine tk 7 30 (bl 14 255) ?_
              refine on_ 8 (some 31) (bl 14 511) (fun K hK => ?_)
              refine gq Tryd.func82 (impl_Warp_lead.calls _ A0_1 c0_1 _ A0_2 c0_2 _ _ _ _ _ _ _ _ (cb HR0_1) HC0_1.out (cb HR0_2) HC0_2.out A13.out (hT.below bw)) ?_
              rintro e w18 ⟨rfl, hb⟩
              refine ⟨_, rfl, ?_⟩
              replace BK296 := b_ BK296 hb
              replace HB := hs hb
              (try clear hb)
              refine hK.out _ _ (cx BK296) (fun hHeld => ?_)
              clear hK K
              refine nm ?_
              refine on_ 9 (some 32) (bl 14 1023) (fun K hK => ?_)
              refine gq Tryd.func81 (impl_ClassOf.calls _ _ _ _ A14.out) ?_
              rintro e w' ⟨rfl, ⟨nd, rfl⟩⟩
              refine ⟨_, rfl, ?_⟩
              refine hK.out _ _ (cx BK296) (fun hHeld => ?_)
              clear hK K
              refine nm ?_
              refine on_ 10 (some 33) (bl 14 2047) (fun K hK => ?_)
              refine gq Tryd.func103 (impl_Room.calls _ _ _ _ _ A15.out) ?_
              rintro e w19 ⟨rfl, hb⟩
              refine ⟨_, rfl, ?_⟩
              replace BK296 := b_ BK296 hb
              replace HB := hs hb
              (try clear hb)
              refine hK.out _ _ (cx BK296) (fun hHeld => ?_)
              clear hK K
              refine nm ?_
              refine pu 11 34 (bl 14 4095) ?_
              refine pu 12 35 (bl 14 8191) ?_
              refine pu 13 4 (bl 14 16383) ?_
              refine dn ?_ _
              try go_wp2
              go_ret
              exact ⟨rt, bw⟩
            · obtain rfl := Option.some.inj H
              obtain ⟨z20_0, z20_1, z20_2, z20_3, z20_4, z20_5, z20_6, z20_7⟩ := ca8 BK296
              obtain ⟨f20_0, f20_1, f20_2, f20_3, f20_4, f20_5, f20_6, f20_7⟩ := fa8 BK296
              try go_wp2
              replace BK296 := bd BK296
              replace HB := hd HB
              refine st 14 (fun w' => CA w' gb296 0 [.int .i64 a0_0, .slice A0_1 l0_1.length c0_1, .slice A0_2 l0_2.length c0_2, .int .u32 a0_3, .int .i64 a0_4, .int .i64 a0_5, .int .i64 a0_6, .int .u32 a0_7]) [] (cx BK296) impl_isTakingSmall.tab7 impl_isTakingSmall.bits7 ?_; intro hHeld HT_ HW_
              generalize wc.drew = w21 at BK296 HB hHeld ⊢
              refine pu 0 23 (bl 14 1) ?_
              refine pu 2 25 (bl 14 5) ?_
              refine tk 1 24 (bl 14 7) ?_
              refine pu 3 26 (bl 14 15) ?_
              refine pu 4 27 (bl 14 31) ?_
              refine pf 5 28 (bl 14 63) ?_
              refine pf 6 29 (bl 14 127) ?_
              refine pf 7 30 (bl 14 255) ?_
              refine pf 8 31 (bl 14 511) ?_
              refine pf 9 32 (bl 14 1023) ?_
              refine pf 10 33 (bl 14 2047) ?_
              refine pf 11 34 (bl 14 4095) ?_
              refine pu 12 35 (bl 14 8191) ?_
              refine pu 13 4 (bl 14 16383) ?_
              refine dn ?_ _
              try go_wp2
              go_ret
              exact ⟨rt, bw⟩
          · obtain rfl := Option.some.inj H
            obtain ⟨z22_0, z22_1, z22_2, z22_3, z22_4, z22_5, z22_6, z22_7⟩ := ca8 BK296
            obtain ⟨f22_0, f22_1, f22_2, f22_3, f22_4, f22_5, f22_6, f22_7⟩ := fa8 BK296
            go_wp2
            go_ret
            exact ⟨rt, bw⟩

end Go.Proofs.YtfhcnnkeokjfpaaDoor.PB1
