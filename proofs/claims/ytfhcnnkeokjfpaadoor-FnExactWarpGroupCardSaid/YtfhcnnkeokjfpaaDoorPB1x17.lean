/- What functions of the program compute, each as a Lean function, and that the run comes to just that. Conditions: none. (Laid by this session's own program.) -/
import Derived.Test.YtfhcnnkeokjfpaaDoorT
import Derived.Test.YtfhcnnkeokjfpaaDoorPB1x0
import Derived.Test.YtfhcnnkeokjfpaaDoorPB1x9
import Derived.Test.YtfhcnnkeokjfpaaDoorPB1x13
import Derived.Test.YtfhcnnkeokjfpaaDoorPB1x14
namespace Go.Proofs.YtfhcnnkeokjfpaaDoor.PB1
open Go.RowKit Go.Proofs.YtfhcnnkeokjfpaaDoorW.PrintWords Go.Proofs.YtfhcnnkeokjfpaaDoorW.PrintLast Go.Proofs.YtfhcnnkeokjfpaaDoorW.PrintMore Go.Proofs.YtfhcnnkeokjfpaaDoor.T
attribute [local go_sem] max2_int min2_int max_two min_two max_three min_three max_four min_four   -- for this text's walks alone
set_option linter.unusedVariables false
set_option linter.unusedSimpArgs false

/-! ### impl_isTakingLarge: function 78 -/
mutual
def impl_isTakingLarge.j0 : Nat → Int → Int → Bool → Int → List Int → List Int → Int → Int → Int → Int → Int → Option (Bool)
  | 0, _, _, _, _, _, _, _, _, _, _, _ => none
  | k + 1, x1, x5, x30, x302000, x302001, x302002, x302003, x302004, x302005, x302006, x302007 => if x30 = true then (some false) else (if x302006 > 0 then (impl_isTakingLarge.j1 k x5 (decide ((wrap64 (x302005 + x5)) > x1)) x302000 x302001 x302002 x302003 x302004 x302005 x302006 x302007) else (if x302004 = 1 then (impl_isTakingLarge.j1 k x5 (decide ((wrap64 (x302005 + x5)) > x1)) x302000 x302001 x302002 x302003 x302004 x302005 x302006 x302007) else (impl_isTakingLarge.j1 k x5 false x302000 x302001 x302002 x302003 x302004 x302005 x302006 x302007)))
def impl_isTakingLarge.j1 : Nat → Int → Bool → Int → List Int → List Int → Int → Int → Int → Int → Int → Option (Bool)
  | 0, _, _, _, _, _, _, _, _, _, _ => none
  | k + 1, x5, x46, x302000, x302001, x302002, x302003, x302004, x302005, x302006, x302007 => if x46 = true then (some false) else (if x302004 = 2 then (some (decide (x302006 > 0))) else (if x302004 = 3 then (some (x302006 == x5)) else (some (decide (x302006 < x5)))))
end
def impl_isTakingLarge.f (k : Nat) (a0_0 : Int) (l0_1 : List Int) (l0_2 : List Int) (a0_3 : Int) (a0_4 : Int) (a0_5 : Int) (a0_6 : Int) (a0_7 : Int) (a1 : Int) : Option (Bool) := (impl_Warp_lead.f a0_0 l0_1 l0_2 a0_3 a0_4 a0_5 a0_6 a0_7).bind fun t302 => ((impl_ChunksFor.f t302).bind fun t303 => ((impl_within.f a0_4 0 3).bind fun t304 => (if t304 = true then (if a0_5 > a1 then (impl_isTakingLarge.j0 k a1 t303 true a0_0 l0_1 l0_2 a0_3 a0_4 a0_5 a0_6 a0_7) else ((impl_within.f a0_6 0 t303).bind fun t305 => (if t305 = true then (impl_isTakingLarge.j0 k a1 t303 (a0_7 != 0) a0_0 l0_1 l0_2 a0_3 a0_4 a0_5 a0_6 a0_7) else (impl_isTakingLarge.j0 k a1 t303 true a0_0 l0_1 l0_2 a0_3 a0_4 a0_5 a0_6 a0_7)))) else (impl_isTakingLarge.j0 k a1 t303 true a0_0 l0_1 l0_2 a0_3 a0_4 a0_5 a0_6 a0_7))))
theorem impl_isTakingLarge.mono_l : ∀ k, (∀ y0 y1 y2 y3 y4 y5 y6 y7 y8 y9 y10, LeO (impl_isTakingLarge.j0 k y0 y1 y2 y3 y4 y5 y6 y7 y8 y9 y10) (impl_isTakingLarge.j0 (k + 1) y0 y1 y2 y3 y4 y5 y6 y7 y8 y9 y10)) ∧ (∀ y0 y1 y2 y3 y4 y5 y6 y7 y8 y9, LeO (impl_isTakingLarge.j1 k y0 y1 y2 y3 y4 y5 y6 y7 y8 y9) (impl_isTakingLarge.j1 (k + 1) y0 y1 y2 y3 y4 y5 y6 y7 y8 y9))
  | 0 => ⟨fun _ _ _ _ _ _ _ _ _ _ _ r h => by simp [impl_isTakingLarge.j0] at h, fun _ _ _ _ _ _ _ _ _ _ r h => by simp [impl_isTakingLarge.j1] at h⟩
  | k + 1 => by
    obtain ⟨ih0, ih1⟩ := impl_isTakingLarge.mono_l k
    refine ⟨?_, ?_⟩
    · intro y0 y1 y2 y3 y4 y5 y6 y7 y8 y9 y10
      unfold impl_isTakingLarge.j0
      repeat' first
        | (with_reducible first | exact ih0 .. | exact ih1 .. | exact LeO.refl _ | exact LeO.none _ | refine LeO.ite ?_ ?_ | refine LeO.bind ?_ (fun _ => ?_))
        | exact LeO.none _ | refine LeO.ite ?_ ?_ | refine LeO.bind ?_ (fun _ => ?_)
    · intro y0 y1 y2 y3 y4 y5 y6 y7 y8 y9
      unfold impl_isTakingLarge.j1
      repeat' first
        | (with_reducible first | exact ih0 .. | exact ih1 .. | exact LeO.refl _ | exact LeO.none _ | refine LeO.ite ?_ ?_ | refine LeO.bind ?_ (fun _ => ?_))
        | exact LeO.none _ | refine LeO.ite ?_ ?_ | refine LeO.bind ?_ (fun _ => ?_)
theorem impl_isTakingLarge.mono : ∀ a0 a1 a2 a3 a4 a5 a6 a7 a8 k, LeO (impl_isTakingLarge.f k a0 a1 a2 a3 a4 a5 a6 a7 a8) (impl_isTakingLarge.f (k + 1) a0 a1 a2 a3 a4 a5 a6 a7 a8) := by
  intro a0 a1 a2 a3 a4 a5 a6 a7 a8 k
  obtain ⟨ih0, ih1⟩ := impl_isTakingLarge.mono_l k
  unfold impl_isTakingLarge.f
  repeat' first
    | (with_reducible first | exact ih0 .. | exact ih1 .. | exact LeO.refl _ | exact LeO.none _ | refine LeO.ite ?_ ?_ | refine LeO.bind ?_ (fun _ => ?_))
    | exact LeO.none _ | refine LeO.ite ?_ ?_ | refine LeO.bind ?_ (fun _ => ?_)
set_option maxHeartbeats 2000000 in
set_option maxRecDepth 100000 in
theorem impl_isTakingLarge.calls (k : Nat) (a0_0 : Int) (A0_1 : Option Addr) (c0_1 : Nat) (l0_1 : List Int) (A0_2 : Option Addr) (c0_2 : Nat) (l0_2 : List Int) (a0_3 : Int) (a0_4 : Int) (a0_5 : Int) (a0_6 : Int) (a0_7 : Int) (a1 : Int) (r : Bool) (w : World) (hr0_1 : Kd.C (Kd.int .i64) w A0_1 l0_1.length l0_1) (hc0_1 : l0_1.length ≤ c0_1) (hr0_2 : Kd.C (Kd.int .i64) w A0_2 l0_2.length l0_2) (hc0_2 : l0_2.length ≤ c0_2) (h : impl_isTakingLarge.f k a0_0 l0_1 l0_2 a0_3 a0_4 a0_5 a0_6 a0_7 a1 = some r) (hT : GT w) :
    Calls Tryd.prog 78 #[.agg #[.int .i64 a0_0, .slice A0_1 l0_1.length c0_1, .slice A0_2 l0_2.length c0_2, .int .u32 a0_3, .int .i64 a0_4, .int .i64 a0_5, .int .i64 a0_6, .int .u32 a0_7], .int .i64 a1] w fun e w' => e = .returned (.bool r) ∧ Below w.heap.size w w' := by
  have hu28 := Tryd.underlying28
  have HR0_1 := Aside0.mk hr0_1
  have HC0_1 := Aside0.mk hc0_1
  clear hr0_1 hc0_1
  have HR0_2 := Aside0.mk hr0_2
  have HC0_2 := Aside0.mk hc0_2
  clear hr0_2 hc0_2
  have HB := Aside0.mk (Below.refl w.heap.size w)
  unfold impl_isTakingLarge.f at h
  have H := h
  clear h
  replace H := bn H
  obtain ⟨t302, A3, H⟩ := H
  try dsimp only at H
  replace H := bn H
  obtain ⟨t303, A4, H⟩ := H
  try dsimp only at H
  have HC5 := Aside0.mk H
  clear H
  go_enter Tryd.func78, Tryd.ntmps78
  go_upto_region 2 with (first | ((with_reducible refine gd 2 ?_); refine bx 2 28 #[.int .i64 a0_0, .slice A0_1 l0_1.length c0_1, .slice A0_2 l0_2.length c0_2, .int .u32 a0_3, .int .i64 a0_4, .int .i64 a0_5, .int .i64 a0_6, .int .u32 a0_7] ?_; clear HB; intro gb301 w6 hg BK301 hb GE301 HB; clear hb hg; obtain ⟨z7_0, z7_1, z7_2, z7_3, z7_4, z7_5, z7_6, z7_7⟩ := ca8 BK301; obtain ⟨f7_0, f7_1, f7_2, f7_3, f7_4, f7_5, f7_6, f7_7⟩ := fa8 BK301) | ((with_reducible refine gf 82 ?_); refine gc Tryd.func82 (some 7) (impl_Warp_lead.calls _ A0_1 c0_1 _ A0_2 c0_2 _ _ _ _ _ _ _ _ (cb HR0_1) HC0_1.out (cb HR0_2) HC0_2.out A3.out (hT.below bw)) ?_; rintro e w8 ⟨rfl, hb⟩; refine ⟨_, rfl, ?_⟩; replace BK301 := b_ BK301 hb; replace HB := hs hb; try clear hb) | ((with_reducible refine gf 104 ?_); refine gc Tryd.func104 (some 8) (impl_ChunksFor.calls _ _ _ A4.out) ?_; rintro e w' ⟨rfl, ⟨nd, rfl⟩⟩; refine ⟨_, rfl, ?_⟩))
  (try refine ap ?_)
  go_cut [30] (fun v30 wc => ∃ (kq : Nat) (x30_4 : Bool), v30 = .bool x30_4 ∧ Aside0 (impl_isTakingLarge.j0 kq a1 t303 x30_4 a0_0 l0_1 l0_2 a0_3 a0_4 a0_5 a0_6 a0_7 = some r) ∧ Aside0 (kq ≤ k) ∧ Aside0 (wc.heap[gb301]? = some (.cells #[.int .i64 a0_0, (.slice A0_1 l0_1.length c0_1), (.slice A0_2 l0_2.length c0_2), .int .u32 a0_3, .int .i64 a0_4, .int .i64 a0_5, .int .i64 a0_6, .int .u32 a0_7] 28 (0, 0))) ∧ Aside0 (Below w.heap.size w wc))
  case first =>
    have H := HC5.out
    clear HC5
    replace H := bn H
    obtain ⟨t304, A9, H⟩ := H
    try dsimp only at H
    replace H := ib H
    rcases H with ⟨rfl, H⟩ | ⟨rfl, H⟩
    · (try simp only [Bool.not_true, Bool.not_false])
      replace H := igt H
      rcases H with ⟨c11b0, H⟩ | ⟨c11b0, H⟩
      · have H' := Aside0.mk H
        clear H
        obtain ⟨z12_0, z12_1, z12_2, z12_3, z12_4, z12_5, z12_6, z12_7⟩ := ca8 BK301
        obtain ⟨f12_0, f12_1, f12_2, f12_3, f12_4, f12_5, f12_6, f12_7⟩ := fa8 BK301
        go_wp2_with (first | ((with_reducible refine gf 72 ?_); refine gc Tryd.func72 (some 11) (impl_within.calls _ _ _ _ _ A9.out) ?_; rintro e w' ⟨rfl, ⟨nd, rfl⟩⟩; refine ⟨_, rfl, ?_⟩))
        go_meet
        case rel => exact ⟨_, (true), ev, H', ⟨om⟩, ⟨bk BK301⟩, ⟨bw⟩⟩
      · replace H := bn H
        obtain ⟨t305, A13, H⟩ := H
        try dsimp only at H
        replace H := ib H
        rcases H with ⟨rfl, H⟩ | ⟨rfl, H⟩
        · have H' := Aside0.mk H
          clear H
          obtain ⟨z15_0, z15_1, z15_2, z15_3, z15_4, z15_5, z15_6, z15_7⟩ := ca8 BK301
          obtain ⟨f15_0, f15_1, f15_2, f15_3, f15_4, f15_5, f15_6, f15_7⟩ := fa8 BK301
          go_wp2_with (first | ((with_reducible refine gf 72 ?_); refine gc Tryd.func72 (some 11) (impl_within.calls _ _ _ _ _ A9.out) ?_; rintro e w' ⟨rfl, ⟨nd, rfl⟩⟩; refine ⟨_, rfl, ?_⟩) | (go_at_call 72; (with_reducible refine (impl_within.calls _ _ _ _ _ A13.out).mono ?_); rintro e w' ⟨rfl, ⟨nd, rfl⟩⟩))
          go_meet
          case rel => exact ⟨_, ((a0_7 != 0)), ev, H', ⟨om⟩, ⟨bk BK301⟩, ⟨bw⟩⟩
        · have H' := Aside0.mk H
          clear H
          obtain ⟨z16_0, z16_1, z16_2, z16_3, z16_4, z16_5, z16_6, z16_7⟩ := ca8 BK301
          obtain ⟨f16_0, f16_1, f16_2, f16_3, f16_4, f16_5, f16_6, f16_7⟩ := fa8 BK301
          go_wp2_with (first | ((with_reducible refine gf 72 ?_); refine gc Tryd.func72 (some 11) (impl_within.calls _ _ _ _ _ A9.out) ?_; rintro e w' ⟨rfl, ⟨nd, rfl⟩⟩; refine ⟨_, rfl, ?_⟩) | (go_at_call 72; (with_reducible refine (impl_within.calls _ _ _ _ _ A13.out).mono ?_); rintro e w' ⟨rfl, ⟨nd, rfl⟩⟩))
          go_meet
          case rel => exact ⟨_, (true), ev, H', ⟨om⟩, ⟨bk BK301⟩, ⟨bw⟩⟩
    · (try simp only [Bool.not_true, Bool.not_false])
      have H' := Aside0.mk H
      clear H
      obtain ⟨z17_0, z17_1, z17_2, z17_3, z17_4, z17_5, z17_6, z17_7⟩ := ca8 BK301
      obtain ⟨f17_0, f17_1, f17_2, f17_3, f17_4, f17_5, f17_6, f17_7⟩ := fa8 BK301
      go_wp2_with (first | ((with_reducible refine gf 72 ?_); refine gc Tryd.func72 (some 11) (impl_within.calls _ _ _ _ _ A9.out) ?_; rintro e w' ⟨rfl, ⟨nd, rfl⟩⟩; refine ⟨_, rfl, ?_⟩))
      go_meet
      case rel => exact ⟨_, (true), ev, H', ⟨om⟩, ⟨bk BK301⟩, ⟨bw⟩⟩
  case rest =>
    clear HC5
    (try clear z7_0 z7_1 z7_2 z7_3 z7_4 z7_5 z7_6 z7_7)
    (try clear f7_0 f7_1 f7_2 f7_3 f7_4 f7_5 f7_6 f7_7)
    obtain ⟨kq, x30_4, rfl, HA, HJ4, BK301, HB⟩ := hcut
    cases kq with
    | zero => exact absurd HA.out (by simp [impl_isTakingLarge.j0])
    | succ kj4 =>
      have H := HA.out
      clear HA
      simp only [impl_isTakingLarge.j0] at H
      replace H := ib H
      rcases H with ⟨rfl, H⟩ | ⟨rfl, H⟩
      · obtain rfl := Option.some.inj H
        go_wp2
        go_ret
        exact ⟨rt, bw⟩
      · have HC19 := Aside0.mk H
        clear H
        go_upto_region 4 with (fail)
        go_cut [46] (fun v46 wc => ∃ (kq : Nat) (x46_18 : Bool), v46 = .bool x46_18 ∧ Aside0 (impl_isTakingLarge.j1 kq t303 x46_18 a0_0 l0_1 l0_2 a0_3 a0_4 a0_5 a0_6 a0_7 = some r) ∧ Aside0 (kq ≤ kj4) ∧ Aside0 (wc.heap[gb301]? = some (.cells #[.int .i64 a0_0, (.slice A0_1 l0_1.length c0_1), (.slice A0_2 l0_2.length c0_2), .int .u32 a0_3, .int .i64 a0_4, .int .i64 a0_5, .int .i64 a0_6, .int .u32 a0_7] 28 (0, 0))) ∧ Aside0 (Below w.heap.size w wc))
        case first =>
          have H := HC19.out
          clear HC19
          replace H := igt H
          rcases H with ⟨c20b0, H⟩ | ⟨c20b0, H⟩
          · (first | rw [c20b0] | (simp only [i64_w, i32_w]; rw [c20b0]) | (simp only [c20b2, Bool.not_true, Bool.not_false]) | (simp only [c20b1, Bool.not_true, Bool.not_false]) | skip)
            have H' := Aside0.mk H
            clear H
            obtain ⟨z21_0, z21_1, z21_2, z21_3, z21_4, z21_5, z21_6, z21_7⟩ := ca8 BK301
            obtain ⟨f21_0, f21_1, f21_2, f21_3, f21_4, f21_5, f21_6, f21_7⟩ := fa8 BK301
            go_wp2
            go_meet
            case rel => exact ⟨_, (decide ((wrap64 (a0_5 + t303)) > a1)), ev, H', ⟨by have := HJ4.out; first | omega | exact Nat.le_refl _⟩, ⟨bk BK301⟩, ⟨bw⟩⟩
          · (first | rw [c20b0] | (simp only [i64_w, i32_w]; rw [c20b0]) | (simp only [c20b2, Bool.not_true, Bool.not_false]) | (simp only [c20b1, Bool.not_true, Bool.not_false]) | skip)
            replace H := ieq H
            rcases H with ⟨c22b0, c22b1, H⟩ | ⟨c22, c22b0, c22b1, H⟩
            · have H' := Aside0.mk H
              clear H
              obtain ⟨z23_0, z23_1, z23_2, z23_3, z23_4, z23_5, z23_6, z23_7⟩ := ca8 BK301
              obtain ⟨f23_0, f23_1, f23_2, f23_3, f23_4, f23_5, f23_6, f23_7⟩ := fa8 BK301
              go_wp2
              go_meet
              case rel => exact ⟨_, (decide ((wrap64 (a0_5 + t303)) > a1)), ev, H', ⟨by have := HJ4.out; first | omega | exact Nat.le_refl _⟩, ⟨bk BK301⟩, ⟨bw⟩⟩
            · have H' := Aside0.mk H
              clear H
              obtain ⟨z24_0, z24_1, z24_2, z24_3, z24_4, z24_5, z24_6, z24_7⟩ := ca8 BK301
              obtain ⟨f24_0, f24_1, f24_2, f24_3, f24_4, f24_5, f24_6, f24_7⟩ := fa8 BK301
              go_wp2
              go_meet
              case rel => exact ⟨_, (false), ev, H', ⟨by have := HJ4.out; first | omega | exact Nat.le_refl _⟩, ⟨bk BK301⟩, ⟨bw⟩⟩
        case rest =>
          clear HC19
          try clear c18
          (try clear z7_0 z7_1 z7_2 z7_3 z7_4 z7_5 z7_6 z7_7)
          (try clear f7_0 f7_1 f7_2 f7_3 f7_4 f7_5 f7_6 f7_7)
          obtain ⟨kq, x46_18, rfl, HA, HJ18, BK301, HB⟩ := hcut
          cases kq with
          | zero => exact absurd HA.out (by simp [impl_isTakingLarge.j1])
          | succ kj18 =>
            have H := HA.out
            clear HA
            simp only [impl_isTakingLarge.j1] at H
            replace H := ib H
            rcases H with ⟨rfl, H⟩ | ⟨rfl, H⟩
            · obtain rfl := Option.some.inj H
              go_wp2
              go_ret
              exact ⟨rt, bw⟩
            · replace H := ieq H
              rcases H with ⟨c26b0, c26b1, H⟩ | ⟨c26, c26b0, c26b1, H⟩
              · obtain rfl := Option.some.inj H
                obtain ⟨z27_0, z27_1, z27_2, z27_3, z27_4, z27_5, z27_6, z27_7⟩ := ca8 BK301
                obtain ⟨f27_0, f27_1, f27_2, f27_3, f27_4, f27_5, f27_6, f27_7⟩ := fa8 BK301
                go_wp2
                go_ret
                exact ⟨rt, bw⟩
              · replace H := ieq H
                rcases H with ⟨c28b0, c28b1, H⟩ | ⟨c28, c28b0, c28b1, H⟩
                · obtain rfl := Option.some.inj H
                  obtain ⟨z29_0, z29_1, z29_2, z29_3, z29_4, z29_5, z29_6, z29_7⟩ := ca8 BK301
                  obtain ⟨f29_0, f29_1, f29_2, f29_3, f29_4, f29_5, f29_6, f29_7⟩ := fa8 BK301
                  go_wp2
                  go_ret
                  exact ⟨rt, bw⟩
                · obtain rfl := Option.some.inj H
                  obtain ⟨z30_0, z30_1, z30_2, z30_3, z30_4, z30_5, z30_6, z30_7⟩ := ca8 BK301
                  obtain ⟨f30_0, f30_1, f30_2, f30_3, f30_4, f30_5, f30_6, f30_7⟩ := fa8 BK301
                  go_wp2
                  go_ret
                  exact ⟨rt, bw⟩

end Go.Proofs.YtfhcnnkeokjfpaaDoor.PB1
