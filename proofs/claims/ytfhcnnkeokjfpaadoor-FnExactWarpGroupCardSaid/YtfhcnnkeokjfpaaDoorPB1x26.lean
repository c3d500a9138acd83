/- What functions of the program compute, each as a Lean function, and that the run comes to just that. Conditions: none. (Laid by this session's own program.) -/
import Derived.Test.YtfhcnnkeokjfpaaDoorT
import Derived.Test.YtfhcnnkeokjfpaaDoorPB1x0
import Derived.Test.YtfhcnnkeokjfpaaDoorPB1x2
import Derived.Test.YtfhcnnkeokjfpaaDoorPB1x9
import Derived.Test.YtfhcnnkeokjfpaaDoorPB1x10
import Derived.Test.YtfhcnnkeokjfpaaDoorPB1x13
import Derived.Test.YtfhcnnkeokjfpaaDoorPB1x14
import Derived.Test.YtfhcnnkeokjfpaaDoorPB1x16
import Derived.Test.YtfhcnnkeokjfpaaDoorPB1x18
import Derived.Test.YtfhcnnkeokjfpaaDoorPB1x25
namespace Go.Proofs.YtfhcnnkeokjfpaaDoor.PB1
open Go.RowKit Go.Proofs.YtfhcnnkeokjfpaaDoorW.PrintWords Go.Proofs.YtfhcnnkeokjfpaaDoorW.PrintLast Go.Proofs.YtfhcnnkeokjfpaaDoorW.PrintMore Go.Proofs.YtfhcnnkeokjfpaaDoor.T
attribute [local go_sem] max2_int min2_int max_two min_two max_three min_three max_four min_four   -- for this text's walks alone
set_option linter.unusedVariables false
set_option linter.unusedSimpArgs false

/-! ### impl_Warp_group: function 46 -/
def impl_Warp_group.l0 : Nat → Int → List Int → Int → Int → Int → List Int → List Int → Int → Int → Int → Int → Int → Option (Int)
  | 0, _, _, _, _, _, _, _, _, _, _, _, _ => none
  | k + 1, x3, x20, x21, x22, x399000, x399001, x399002, x399003, x399004, x399005, x399006, x399007 => if x22 < x21 then (if 0 ≤ x22 then (if x22 < (x20.length : Int) then (if 0 ≤ (rd x20 x22) then (if (rd x20 x22) < (x399001.length : Int) then ((impl_ClassOf.f k (rd x399001 (rd x20 x22))).bind fun t405 => ((impl_Warp_lead.f x399000 x399001 x399002 x399003 x399004 x399005 x399006 x399007).bind fun t406 => ((impl_ClassOf.f k t406).bind fun t407 => (if t405 = t407 then (impl_Warp_group.l0 k (Go.bits .or .u32 x3 (shl .u32 1 (rd x20 x22))) x20 x21 (wrap64 (x22 + 1)) x399000 x399001 x399002 x399003 x399004 x399005 x399006 x399007) else (impl_Warp_group.l0 k x3 x20 x21 (wrap64 (x22 + 1)) x399000 x399001 x399002 x399003 x399004 x399005 x399006 x399007))))) else (none)) else (none)) else (none)) else (none)) else (some x3)
def impl_Warp_group.f (k : Nat) (a0_0 : Int) (l0_1 : List Int) (l0_2 : List Int) (a0_3 : Int) (a0_4 : Int) (a0_5 : Int) (a0_6 : Int) (a0_7 : Int) : Option (Int) := if a0_3 = 0 then (some 0) else ((impl_Warp_isSmall.f a0_0 l0_1 l0_2 a0_3 a0_4 a0_5 a0_6 a0_7).bind fun t399 => (if t399 = true then ((impl_BitList.f k a0_3).bind fun t400 => (impl_Warp_group.l0 k 0 t400 (t400.length : Int) 0 a0_0 l0_1 l0_2 a0_3 a0_4 a0_5 a0_6 a0_7)) else (some (Go.bits .and .u32 a0_3 ((-a0_3) % 4294967296)))))
theorem impl_Warp_group.mono_l : ∀ k, (∀ y0 y1 y2 y3 y4 y5 y6 y7 y8 y9 y10 y11, LeO (impl_Warp_group.l0 k y0 y1 y2 y3 y4 y5 y6 y7 y8 y9 y10 y11) (impl_Warp_group.l0 (k + 1) y0 y1 y2 y3 y4 y5 y6 y7 y8 y9 y10 y11))
  | 0 => fun _ _ _ _ _ _ _ _ _ _ _ _ r h => by simp [impl_Warp_group.l0] at h
  | k + 1 => by
    have ih0 := impl_Warp_group.mono_l k
    · intro y0 y1 y2 y3 y4 y5 y6 y7 y8 y9 y10 y11
      unfold impl_Warp_group.l0
      repeat' first
        | (with_reducible first | exact ih0 .. | exact impl_BitList.mono .. | exact impl_ClassOf.mono .. | exact LeO.refl _ | exact LeO.none _ | refine LeO.ite ?_ ?_ | refine LeO.bind ?_ (fun _ => ?_))
        | exact LeO.none _ | refine LeO.ite ?_ ?_ | refine LeO.bind ?_ (fun _ => ?_)
theorem impl_Warp_group.mono : ∀ a0 a1 a2 a3 a4 a5 a6 a7 k, LeO (impl_Warp_group.f k a0 a1 a2 a3 a4 a5 a6 a7) (impl_Warp_group.f (k + 1) a0 a1 a2 a3 a4 a5 a6 a7) := by
  intro a0 a1 a2 a3 a4 a5 a6 a7 k
  have ih0 := impl_Warp_group.mono_l k
  unfold impl_Warp_group.f
  repeat' first
    | (with_reducible first | exact ih0 .. | exact impl_BitList.mono .. | exact impl_ClassOf.mono .. | exact LeO.refl _ | exact LeO.none _ | refine LeO.ite ?_ ?_ | refine LeO.bind ?_ (fun _ => ?_))
    | exact LeO.none _ | refine LeO.ite ?_ ?_ | refine LeO.bind ?_ (fun _ => ?_)
def impl_Warp_group.T9 : Bool × List (List Nat × List Nat) := (true, [([], []), ([0], [0]), ([], []), ([1, 2], [1, 2]), ([3], [3]), ([4], [4]), ([], []), ([6, 5], [6]), ([7, 7], [7]), ([5, 8], [5, 8])])
def impl_Warp_group.B9 : List Nat := [0, 1, 0, 7, 15, 31, 0, 127, 255, 511]
theorem impl_Warp_group.tab9 : rtab .any (opsOf Tryd.f46 9) = impl_Warp_group.T9 := kr
theorem impl_Warp_group.bits9 : waitsOk impl_Warp_group.T9.2 impl_Warp_group.B9 = true := kr
set_option maxHeartbeats 8000000 in
set_option maxRecDepth 100000 in
theorem impl_Warp_group.calls (k : Nat) (a0_0 : Int) (A0_1 : Option Addr) (c0_1 : Nat) (l0_1 : List Int) (A0_2 : Option Addr) (c0_2 : Nat) (l0_2 : List Int) (a0_3 : Int) (a0_4 : Int) (a0_5 : Int) (a0_6 : Int) (a0_7 : Int) (r : Int) (w : World) (hr0_1 : Kd.C (Kd.int .i64) w A0_1 l0_1.length l0_1) (hc0_1 : l0_1.length ≤ c0_1) (hr0_2 : Kd.C (Kd.int .i64) w A0_2 l0_2.length l0_2) (hc0_2 : l0_2.length ≤ c0_2) (h : impl_Warp_group.f k a0_0 l0_1 l0_2 a0_3 a0_4 a0_5 a0_6 a0_7 = some r) (hT : GT w) :
    Calls Tryd.prog 46 #[.agg #[.int .i64 a0_0, .slice A0_1 l0_1.length c0_1, .slice A0_2 l0_2.length c0_2, .int .u32 a0_3, .int .i64 a0_4, .int .i64 a0_5, .int .i64 a0_6, .int .u32 a0_7]] w fun e w' => e = .returned (.int .u32 r) ∧ Below w.heap.size w w' := by
  have hu28 := Tryd.underlying28
  have HR0_1 := Aside0.mk hr0_1
  have HC0_1 := Aside0.mk hc0_1
  clear hr0_1 hc0_1
  have HR0_2 := Aside0.mk hr0_2
  have HC0_2 := Aside0.mk hc0_2
  clear hr0_2 hc0_2
  have HB := Aside0.mk (Below.refl w.heap.size w)
  unfold impl_Warp_group.f at h
  have H := h
  clear h
  have HU2 := Aside0.mk H
  clear H
  go_enter Tryd.func46, Tryd.ntmps46
  go_upto_if 8 with (first | ((with_reducible refine gd 1 ?_); refine bx 1 28 #[.int .i64 a0_0, .slice A0_1 l0_1.length c0_1, .slice A0_2 l0_2.length c0_2, .int .u32 a0_3, .int .i64 a0_4, .int .i64 a0_5, .int .i64 a0_6, .int .u32 a0_7] ?_; clear HB; intro gb398 w3 hg BK398 hb GE398 HB; clear hb hg; obtain ⟨z4_0, z4_1, z4_2, z4_3, z4_4, z4_5, z4_6, z4_7⟩ := ca8 BK398; obtain ⟨f4_0, f4_1, f4_2, f4_3, f4_4, f4_5, f4_6, f4_7⟩ := fa8 BK398))
  (try refine ap ?_)
  have H := HU2.out
  clear HU2
  replace H := ieq H
  rcases H with ⟨c5b0, c5b1, H⟩ | ⟨c5, c5b0, c5b1, H⟩
  · (first | rw [c5b0] | (simp only [i64_w, i32_w]; rw [c5b0]) | (simp only [c5b2, Bool.not_true, Bool.not_false]) | (simp only [c5b1, Bool.not_true, Bool.not_false]) | skip)
    obtain rfl := Option.some.inj H
    go_wp2
    go_ret
    exact ⟨rt, bw⟩
  · (first | rw [c5b0] | (simp only [i64_w, i32_w]; rw [c5b0]) | (simp only [c5b2, Bool.not_true, Bool.not_false]) | (simp only [c5b1, Bool.not_true, Bool.not_false]) | skip)
    replace H := bn H
    obtain ⟨t399, A6, H⟩ := H
    try dsimp only at H
    have HU7 := Aside0.mk H
    clear H
    obtain ⟨z8_0, z8_1, z8_2, z8_3, z8_4, z8_5, z8_6, z8_7⟩ := ca8 BK398
    obtain ⟨f8_0, f8_1, f8_2, f8_3, f8_4, f8_5, f8_6, f8_7⟩ := fa8 BK398
    go_upto_if 11 with (first | ((with_reducible refine gf 76 ?_); refine gc Tryd.func76 (some 10) (impl_Warp_isSmall.calls _ A0_1 c0_1 _ A0_2 c0_2 _ _ _ _ _ _ _ _ (cb HR0_1) HC0_1.out (cb HR0_2) HC0_2.out A6.out (hT.below bw)) ?_; rintro e w9 ⟨rfl, hb⟩; refine ⟨_, rfl, ?_⟩; replace BK398 := b_ BK398 hb; replace HB := hs hb; try clear hb))
    (try refine ap ?_)
    have H := HU7.out
    clear HU7
    replace H := ib H
    rcases H with ⟨rfl, H⟩ | ⟨rfl, H⟩
    · (try simp only [Bool.not_true, Bool.not_false])
      replace H := bn H
      obtain ⟨t400, A11, H⟩ := H
      try dsimp only at H
      have H' := Aside0.mk H
      clear H
      obtain ⟨z12_0, z12_1, z12_2, z12_3, z12_4, z12_5, z12_6, z12_7⟩ := ca8 BK398
      obtain ⟨f12_0, f12_1, f12_2, f12_3, f12_4, f12_5, f12_6, f12_7⟩ := fa8 BK398
      go_wp2_with (first | ((with_reducible refine gf 80 ?_); refine gc Tryd.func80 (some 20) (impl_BitList.calls _ _ _ _ A11.out) ?_; rintro e w13 ⟨v401, rfl, ho0, hb⟩; refine ⟨_, rfl, ?_⟩; have HO402 := Aside0.mk (Kd.R_lower ho0 (below_size bw)); replace BK398 := b_ BK398 hb; replace HB := hs hb; try clear hb; (try clear ho0); obtain ⟨Ao14, co14, eo14⟩ := Kd.R_slice HO402.out; subst eo14))
      go_loopg [3, 22] k (fun kq v3 v22 w' => ∃ (x3_1 : Int) (x22_1 : Int), v3 = .int .u32 x3_1 ∧ v22 = .int .i64 x22_1 ∧ Aside0 (impl_Warp_group.l0 kq x3_1 t400 (t400.length : Int) x22_1 a0_0 l0_1 l0_2 a0_3 a0_4 a0_5 a0_6 a0_7 = some r) ∧ Aside0 (kq ≤ k) ∧ Aside0 (Kd.R (Kd.int .i64) 3 w' w.heap.size (fun _ => True) (.slice Ao14 t400.length co14) t400) ∧ Aside0 (w'.heap[gb398]? = some (.cells #[.int .i64 a0_0, (.slice A0_1 l0_1.length c0_1), (.slice A0_2 l0_2.length c0_2), .int .u32 a0_3, .int .i64 a0_4, .int .i64 a0_5, .int .i64 a0_6, .int .u32 a0_7] 28 (0, 0))) ∧ Aside0 (Below w.heap.size w w'))
      case atStart => exact ⟨(0), (0), ev, ev, H', ⟨Nat.le_refl _⟩, ⟨ro HO402⟩, ⟨bk BK398⟩, ⟨bw⟩⟩
      case round =>
        clear H'
        try clear c5
        try clear c5b0
        try clear c5b1
        try clear c5b2
        try clear c10
        (try clear z12_0 z12_1 z12_2 z12_3 z12_4 z12_5 z12_6 z12_7)
        (try clear z4_0 z4_1 z4_2 z4_3 z4_4 z4_5 z4_6 z4_7)
        (try clear z8_0 z8_1 z8_2 z8_3 z8_4 z8_5 z8_6 z8_7)
        (try clear f12_0 f12_1 f12_2 f12_3 f12_4 f12_5 f12_6 f12_7)
        (try clear f4_0 f4_1 f4_2 f4_3 f4_4 f4_5 f4_6 f4_7)
        (try clear f8_0 f8_1 f8_2 f8_3 f8_4 f8_5 f8_6 f8_7)
        obtain ⟨x3_1, x22_1, rfl, rfl, HA, HK1, HO_20, BK398, HB⟩ := hrel
        cases gk with
        | zero => exact absurd HA.out (by simp [impl_Warp_group.l0])
        | succ k1 =>
          have H := HA.out
          clear HA
          simp only [impl_Warp_group.l0] at H
          replace H := ilt H
          rcases H with ⟨c15b0, H⟩ | ⟨c15b0, H⟩
          · by_cases c16 : 0 ≤ x22_1
            · rw [if_pos c16] at H
              have c16b0 : decide (0 ≤ x22_1) = true := decide_eq_true c16
              clear c16
              by_cases c17 : x22_1 < (t400.length : Int)
              · rw [if_pos c17] at H
                have c17b0 : decide (x22_1 < (t400.length : Int)) = true := decide_eq_true c17
                clear c17
                by_cases c18 : 0 ≤ (rd t400 x22_1)
                · rw [if_pos c18] at H
                  have c18b0 : decide (0 ≤ (rd t400 x22_1)) = true := decide_eq_true c18
                  clear c18
                  by_cases c19 : (rd t400 x22_1) < (l0_1.length : Int)
                  · rw [if_pos c19] at H
                    have c19b0 : decide ((rd t400 x22_1) < (l0_1.length : Int)) = true := decide_eq_true c19
                    clear c19
                    replace H := bn H
                    obtain ⟨t405, A20, H⟩ := H
                    try dsimp only at H
                    replace H := bn H
                    obtain ⟨t406, A21, H⟩ := H
                    try dsimp only at H
                    replace H := bn H
                    obtain ⟨t407, A22, H⟩ := H
                    try dsimp only at H
                    have HU23 := Aside0.mk H
                    clear H
                    have p403 : 0 ≤ (x22_1 : Int) := of_decide_eq_true as_
                    have q403 : x22_1 < (t400.length : Int) := of_decide_eq_true as_
                    obtain ⟨ad403, e403, hx403_0⟩ := Kd.at_int (Kd.R_reads' HO_20.out).2.2 x22_1 p403 q403
                    cases e403
                    replace p403 := eq_true p403
                    replace q403 := eq_true q403
                    try go_wp2
                    replace HO_20 := Aside0.mk (Kd.R_drew HO_20.out)
                    replace BK398 := bd BK398
                    replace HB := hd HB
                    obtain ⟨ad404, e404, hw404_0, hx404_0, p404, q404⟩ := ri HR0_1 HB (rd t400 x22_1)
                    cases e404
                    refine st 10 (fun w' => CA w' gb398 0 [.int .i64 a0_0, .slice (some ad404) l0_1.length c0_1, .slice A0_2 l0_2.length c0_2, .int .u32 a0_3, .int .i64 a0_4, .int .i64 a0_5, .int .i64 a0_6, .int .u32 a0_7] ∧ w'.cell? (ad404.add ((rd t400 x22_1)).toNat) = some (.int .i64 (rd l0_1 (rd t400 x22_1)))) [] ⟨cx BK398, (cl HB hw404_0 :)⟩ impl_Warp_group.tab9 impl_Warp_group.bits9 ?_; intro hHeld HT_ HW_
                    generalize wr.drew = w24 at HO_20 BK398 HB hx404_0 hHeld ⊢
                    refine pu 0 26 (bl 10 1) ?_
                    refine pu 2 28 (bl 10 5) ?_
                    refine tk 1 27 (bl 10 7) ?_
                    refine pu 3 29 (bl 10 15) ?_
                    refine tk 4 30 (bl 10 31) ?_
                    refine tk 6 32 (bl 10 95) ?_
                    refine on_ 5 (some 31) (bl 10 127) (fun K hK => ?_)
                    refine gq Tryd.func81 (impl_ClassOf.calls _ _ _ _ A20.out) ?_
                    rintro e w' ⟨rfl, ⟨nd, rfl⟩⟩
                    refine ⟨_, rfl, ?_⟩
                    refine hK.out _ _ ⟨cx BK398, (cl HB hw404_0 :)⟩ (fun hHeld => ?_)
                    clear hK K
                    refine nm ?_
                    refine on_ 7 (some 33) (bl 10 255) (fun K hK => ?_)
                    refine gq Tryd.func82 (impl_Warp_lead.calls _ (some ad404) c0_1 _ A0_2 c0_2 _ _ _ _ _ _ _ _ (cb HR0_1) HC0_1.out (cb HR0_2) HC0_2.out A21.out (hT.below bw)) ?_
                    rintro e w25 ⟨rfl, hb⟩
                    refine ⟨_, rfl, ?_⟩
                    replace HO_20 := Aside0.mk (Kd.R_below (ro HO_20) hb)
                    replace BK398 := b_ BK398 hb
                    replace HB := hs hb
                    (try clear hb)
                    (try clear hb2)
                    (try clear hk)
                    (try clear hi)
                    refine hK.out _ _ ⟨cx BK398, (cl HB hw404_0 :)⟩ (fun hHeld => ?_)
                    clear hK K
                    refine nm ?_
                    refine on_ 8 (some 34) (bl 10 511) (fun K hK => ?_)
                    refine gq Tryd.func81 (impl_ClassOf.calls _ _ _ _ A22.out) ?_
                    rintro e w' ⟨rfl, ⟨nd, rfl⟩⟩
                    refine ⟨_, rfl, ?_⟩
                    refine hK.out _ _ ⟨cx BK398, (cl HB hw404_0 :)⟩ (fun hHeld => ?_)
                    clear hK K
                    refine nm ?_
                    refine pu 9 35 (bl 10 1023) ?_
                    refine dn ?_ _
                    go_upto_if 35 with (fail)
                    have H := HU23.out
                    clear HU23
                    replace H := ieq H
                    rcases H with ⟨c26b0, c26b1, H⟩ | ⟨c26, c26b0, c26b1, H⟩
                    · (first | rw [c26b0] | (simp only [i64_w, i32_w]; rw [c26b0]) | (simp only [c26b2, Bool.not_true, Bool.not_false]) | (simp only [c26b1, Bool.not_true, Bool.not_false]) | skip)
                      have c27b0 := eq_true (of_decide_eq_true as_ : 0 ≤ (rd t400 x22_1))
                      obtain ⟨ji28, hji28⟩ : ∃ j_ : Int, (shl .u32 1 (rd t400 x22_1)) = j_ := ⟨_, rfl⟩
                      first | rw [hji28] at H | simp only [hji28] at H
                      have hji28_ : (IntKind.u32.wrap (1 * 2 ^ min (rd t400 x22_1).toNat 32)) = ji28 := hji28
                      have hji28z : (rd t400 x22_1) ≤ 32 → (IntKind.u32.wrap (1 * 2 ^ (rd t400 x22_1).toNat)) = ji28 := shl_small hji28
                      have hji28u : (IntKind.u32.wrap (2 ^ min (rd t400 x22_1).toNat 32)) = ji28 := by have h_ := hji28_; rw [Int.one_mul] at h_; exact h_
                      have hji28v : (rd t400 x22_1) ≤ 32 → (IntKind.u32.wrap (2 ^ (rd t400 x22_1).toNat)) = ji28 := fun hle_ => by have h_ := hji28z hle_; rw [Int.one_mul] at h_; exact h_
                      have H' := Aside0.mk H
                      clear H
                      go_wp2
                      go_roundg k1
                      case measure => have := HK1.out; omega
                      case rel => exact ⟨(Go.bits .or .u32 x3_1 (ji28)), (wrap64 (x22_1 + 1)), (by first | rfl | (simp; done) | (simp only [← hji28] <;> (first | rfl | (rw [shl_one_]; done) | simp)) | (simp [*]; done)), ev, H', ⟨oa HK1⟩, ⟨ro HO_20⟩, ⟨bk BK398⟩, ⟨bw⟩⟩
                    · (first | rw [c26b0] | (simp only [i64_w, i32_w]; rw [c26b0]) | (simp only [c26b2, Bool.not_true, Bool.not_false]) | (simp only [c26b1, Bool.not_true, Bool.not_false]) | skip)
                      have H' := Aside0.mk H
                      clear H
                      go_wp2
                      go_roundg k1
                      case measure => have := HK1.out; omega
                      case rel => exact ⟨(x3_1), (wrap64 (x22_1 + 1)), ev, ev, H', ⟨oa HK1⟩, ⟨ro HO_20⟩, ⟨bk BK398⟩, ⟨bw⟩⟩
                  · rw [if_neg c19] at H
                    exact absurd H (by simp)
                · rw [if_neg c18] at H
                  exact absurd H (by simp)
              · rw [if_neg c17] at H
                exact absurd H (by simp)
            · rw [if_neg c16] at H
              exact absurd H (by simp)
          · obtain rfl := Option.some.inj H
            go_wp2
            go_ret
            exact ⟨rt, bw⟩
    · (try simp only [Bool.not_true, Bool.not_false])
      obtain rfl := Option.some.inj H
      obtain ⟨z29_0, z29_1, z29_2, z29_3, z29_4, z29_5, z29_6, z29_7⟩ := ca8 BK398
      obtain ⟨f29_0, f29_1, f29_2, f29_3, f29_4, f29_5, f29_6, f29_7⟩ := fa8 BK398
      go_wp2
      go_ret
      exact ⟨rt, bw⟩

/-! ### impl_WarpGroup: function 14 -/
def impl_WarpGroup.f (k : Nat) (a0_0 : Int) (l0_1 : List Int) (l0_2 : List Int) (a0_3 : Int) (a0_4 : Int) (a0_5 : Int) (a0_6 : Int) (a0_7 : Int) : Option (Int) := (impl_isWarp.f k a0_0 l0_1 l0_2 a0_3 a0_4 a0_5 a0_6 a0_7 16).bind fun t409 => (if t409 = true then ((impl_Warp_group.f k a0_0 l0_1 l0_2 a0_3 a0_4 a0_5 a0_6 a0_7).bind fun t410 => (some t410)) else (some 0))
theorem impl_WarpGroup.mono : ∀ a0 a1 a2 a3 a4 a5 a6 a7 k, LeO (impl_WarpGroup.f k a0 a1 a2 a3 a4 a5 a6 a7) (impl_WarpGroup.f (k + 1) a0 a1 a2 a3 a4 a5 a6 a7) := by
  intro a0 a1 a2 a3 a4 a5 a6 a7 k
  unfold impl_WarpGroup.f
  repeat' first
    | (with_reducible first | exact impl_Warp_group.mono .. | exact impl_isWarp.mono .. | exact LeO.refl _ | exact LeO.none _ | refine LeO.ite ?_ ?_ | refine LeO.bind ?_ (fun _ => ?_))
    | exact LeO.none _ | refine LeO.ite ?_ ?_ | refine LeO.bind ?_ (fun _ => ?_)
set_option maxHeartbeats 8000000 in
set_option maxRecDepth 100000 in
theorem impl_WarpGroup.calls (k : Nat) (a0_0 : Int) (A0_1 : Option Addr) (c0_1 : Nat) (l0_1 : List Int) (A0_2 : Option Addr) (c0_2 : Nat) (l0_2 : List Int) (a0_3 : Int) (a0_4 : Int) (a0_5 : Int) (a0_6 : Int) (a0_7 : Int) (r : Int) (w : World) (hr0_1 : Kd.C (Kd.int .i64) w A0_1 l0_1.length l0_1) (hc0_1 : l0_1.length ≤ c0_1) (hr0_2 : Kd.C (Kd.int .i64) w A0_2 l0_2.length l0_2) (hc0_2 : l0_2.length ≤ c0_2) (h : impl_WarpGroup.f k a0_0 l0_1 l0_2 a0_3 a0_4 a0_5 a0_6 a0_7 = some r) (hT : GT w) :
    Calls Tryd.prog 14 #[.agg #[.int .i64 a0_0, .slice A0_1 l0_1.length c0_1, .slice A0_2 l0_2.length c0_2, .int .u32 a0_3, .int .i64 a0_4, .int .i64 a0_5, .int .i64 a0_6, .int .u32 a0_7]] w fun e w' => e = .returned (.int .u32 r) ∧ Below w.heap.size w w' := by
  have hu28 := Tryd.underlying28
  have HR0_1 := Aside0.mk hr0_1
  have HC0_1 := Aside0.mk hc0_1
  clear hr0_1 hc0_1
  have HR0_2 := Aside0.mk hr0_2
  have HC0_2 := Aside0.mk hc0_2
  clear hr0_2 hc0_2
  have HB := Aside0.mk (Below.refl w.heap.size w)
  unfold impl_WarpGroup.f at h
  have H := h
  clear h
  replace H := bn H
  obtain ⟨t409, A2, H⟩ := H
  try dsimp only at H
  have HU3 := Aside0.mk H
  clear H
  go_enter Tryd.func14, Tryd.ntmps14
  go_upto_if 5 with (first | ((with_reducible refine gd 1 ?_); refine bx 1 28 #[.int .i64 a0_0, .slice A0_1 l0_1.length c0_1, .slice A0_2 l0_2.length c0_2, .int .u32 a0_3, .int .i64 a0_4, .int .i64 a0_5, .int .i64 a0_6, .int .u32 a0_7] ?_; clear HB; intro gb408 w4 hg BK408 hb GE408 HB; clear hb hg; obtain ⟨z5_0, z5_1, z5_2, z5_3, z5_4, z5_5, z5_6, z5_7⟩ := ca8 BK408; obtain ⟨f5_0, f5_1, f5_2, f5_3, f5_4, f5_5, f5_6, f5_7⟩ := fa8 BK408) | ((with_reducible refine gf 42 ?_); refine gc Tryd.func42 (some 4) (impl_isWarp.calls _ _ A0_1 c0_1 _ A0_2 c0_2 _ _ _ _ _ _ _ _ _ (cb HR0_1) HC0_1.out (cb HR0_2) HC0_2.out A2.out (hT.below bw)) ?_; rintro e w6 ⟨rfl, hb⟩; refine ⟨_, rfl, ?_⟩; replace BK408 := b_ BK408 hb; replace HB := hs hb; try clear hb))
  (try refine ap ?_)
  have H := HU3.out
  clear HU3
  replace H := ib H
  rcases H with ⟨rfl, H⟩ | ⟨rfl, H⟩
  · (try simp only [Bool.not_true, Bool.not_false])
    replace H := bn H
    obtain ⟨t410, A8, H⟩ := H
    try dsimp only at H
    obtain rfl := Option.some.inj H
    obtain ⟨z9_0, z9_1, z9_2, z9_3, z9_4, z9_5, z9_6, z9_7⟩ := ca8 BK408
    obtain ⟨f9_0, f9_1, f9_2, f9_3, f9_4, f9_5, f9_6, f9_7⟩ := fa8 BK408
    go_wp2_with (first | ((with_reducible refine gf 46 ?_); refine gc Tryd.func46 (some 7) (impl_Warp_group.calls _ _ A0_1 c0_1 _ A0_2 c0_2 _ _ _ _ _ _ _ _ (cb HR0_1) HC0_1.out (cb HR0_2) HC0_2.out A8.out (hT.below bw)) ?_; rintro e w10 ⟨rfl, hb⟩; refine ⟨_, rfl, ?_⟩; replace BK408 := b_ BK408 hb; replace HB := hs hb; try clear hb))
    go_ret
    exact ⟨rt, bw⟩
  · (try simp only [Bool.not_true, Bool.not_false])
    obtain rfl := Option.some.inj H
    go_wp2
    go_ret
    exact ⟨rt, bw⟩

/-! ### laws_FnExactWarpGroup: function 4 -/
def laws_FnExactWarpGroup.f (k : Nat) (a0_0 : Int) (l0_1 : List Int) (l0_2 : List Int) (a0_3 : Int) (a0_4 : Int) (a0_5 : Int) (a0_6 : Int) (a0_7 : Int) : Option (Bool) := (laws_szWarp.f a0_0 l0_1 l0_2 a0_3 a0_4 a0_5 a0_6 a0_7 1048576).bind fun t412 => (if t412 < 0 then (some true) else ((laws_toWarp.f k a0_0 l0_1 l0_2 a0_3 a0_4 a0_5 a0_6 a0_7).bind fun bt413 => ((spec_WarpGroup.f k bt413.1 bt413.2.1 bt413.2.2.1 bt413.2.2.2.1 bt413.2.2.2.2.1 bt413.2.2.2.2.2.1 bt413.2.2.2.2.2.2.1 bt413.2.2.2.2.2.2.2).bind fun t425 => ((laws_toWarp.f k a0_0 l0_1 l0_2 a0_3 a0_4 a0_5 a0_6 a0_7).bind fun bt426 => ((impl_WarpGroup.f k bt426.1 bt426.2.1 bt426.2.2.1 bt426.2.2.2.1 bt426.2.2.2.2.1 bt426.2.2.2.2.2.1 bt426.2.2.2.2.2.2.1 bt426.2.2.2.2.2.2.2).bind fun t439 => (if t439 = t425 then ((laws_toWarp.f k a0_0 l0_1 l0_2 a0_3 a0_4 a0_5 a0_6 a0_7).bind fun bt440 => ((laws_eqWarp.f k bt426.1 bt426.2.1 bt426.2.2.1 bt426.2.2.2.1 bt426.2.2.2.2.1 bt426.2.2.2.2.2.1 bt426.2.2.2.2.2.2.1 bt426.2.2.2.2.2.2.2 bt440.1 bt440.2.1 bt440.2.2.1 bt440.2.2.2.1 bt440.2.2.2.2.1 bt440.2.2.2.2.2.1 bt440.2.2.2.2.2.2.1 bt440.2.2.2.2.2.2.2).bind fun t452 => (if t452 = true then (some true) else (some false)))) else (some false)))))))
theorem laws_FnExactWarpGroup.mono : ∀ a0 a1 a2 a3 a4 a5 a6 a7 k, LeO (laws_FnExactWarpGroup.f k a0 a1 a2 a3 a4 a5 a6 a7) (laws_FnExactWarpGroup.f (k + 1) a0 a1 a2 a3 a4 a5 a6 a7) := by
  intro a0 a1 a2 a3 a4 a5 a6 a7 k
  unfold laws_FnExactWarpGroup.f
  repeat' first
    | (with_reducible first | exact impl_WarpGroup.mono .. | exact laws_eqWarp.mono .. | exact laws_toWarp.mono .. | exact spec_WarpGroup.mono .. | exact LeO.refl _ | exact LeO.none _ | refine LeO.ite ?_ ?_ | refine LeO.bind ?_ (fun _ => ?_))
    | exact LeO.none _ | refine LeO.ite ?_ ?_ | refine LeO.bind ?_ (fun _ => ?_)
set_option maxHeartbeats 8000000 in
set_option maxRecDepth 100000 in
theorem laws_FnExactWarpGroup.calls (k : Nat) (a0_0 : Int) (A0_1 : Option Addr) (c0_1 : Nat) (l0_1 : List Int) (A0_2 : Option Addr) (c0_2 : Nat) (l0_2 : List Int) (a0_3 : Int) (a0_4 : Int) (a0_5 : Int) (a0_6 : Int) (a0_7 : Int) (r : Bool) (w : World) (hr0_1 : Kd.C (Kd.int .i64) w A0_1 l0_1.length l0_1) (hc0_1 : l0_1.length ≤ c0_1) (hr0_2 : Kd.C (Kd.int .i64) w A0_2 l0_2.length l0_2) (hc0_2 : l0_2.length ≤ c0_2) (h : laws_FnExactWarpGroup.f k a0_0 l0_1 l0_2 a0_3 a0_4 a0_5 a0_6 a0_7 = some r) (hT : GT w) :
    Calls Tryd.prog 4 #[.agg #[.int .i64 a0_0, .slice A0_1 l0_1.length c0_1, .slice A0_2 l0_2.length c0_2, .int .u32 a0_3, .int .i64 a0_4, .int .i64 a0_5, .int .i64 a0_6, .int .u32 a0_7]] w fun e w' => e = .returned (.bool r) ∧ Below w.heap.size w w' := by
  have hu25 := Tryd.underlying25
  have hu28 := Tryd.underlying28
  have HR0_1 := Aside0.mk hr0_1
  have HC0_1 := Aside0.mk hc0_1
  clear hr0_1 hc0_1
  have HR0_2 := Aside0.mk hr0_2
  have HC0_2 := Aside0.mk hc0_2
  clear hr0_2 hc0_2
  have HB := Aside0.mk (Below.refl w.heap.size w)
  unfold laws_FnExactWarpGroup.f at h
  have H := h
  clear h
  replace H := bn H
  obtain ⟨t412, A2, H⟩ := H
  try dsimp only at H
  have HU3 := Aside0.mk H
  clear H
  go_enter Tryd.func4, Tryd.ntmps4
  go_upto_if 11 with (first | ((with_reducible refine gd 1 ?_); refine bx 1 25 #[.int .i64 a0_0, .slice A0_1 l0_1.length c0_1, .slice A0_2 l0_2.length c0_2, .int .u32 a0_3, .int .i64 a0_4, .int .i64 a0_5, .int .i64 a0_6, .int .u32 a0_7] ?_; clear HB; intro gb411 w4 hg BK411 hb GE411 HB; clear hb hg; obtain ⟨z5_0, z5_1, z5_2, z5_3, z5_4, z5_5, z5_6, z5_7⟩ := ca8 BK411; obtain ⟨f5_0, f5_1, f5_2, f5_3, f5_4, f5_5, f5_6, f5_7⟩ := fa8 BK411) | ((with_reducible refine gf 8 ?_); refine gc Tryd.func8 (some 9) (laws_szWarp.calls _ A0_1 c0_1 _ A0_2 c0_2 _ _ _ _ _ _ _ _ _ (cb HR0_1) HC0_1.out (cb HR0_2) HC0_2.out A2.out) ?_; rintro e w6 ⟨rfl, hb⟩; refine ⟨_, rfl, ?_⟩; replace BK411 := b_ BK411 hb; replace HB := hs hb; try clear hb))
  (try refine ap ?_)
  have H := HU3.out
  clear HU3
  replace H := ilt H
  rcases H with ⟨c7b0, H⟩ | ⟨c7b0, H⟩
  · (first | rw [c7b0] | (simp only [i64_w, i32_w]; rw [c7b0]) | (simp only [c7b2, Bool.not_true, Bool.not_false]) | (simp only [c7b1, Bool.not_true, Bool.not_false]) | skip)
    obtain rfl := Option.some.inj H
    go_wp2
    go_ret
    exact ⟨rt, bw⟩
  · (first | rw [c7b0] | (simp only [i64_w, i32_w]; rw [c7b0]) | (simp only [c7b2, Bool.not_true, Bool.not_false]) | (simp only [c7b1, Bool.not_true, Bool.not_false]) | skip)
    replace H := bn H
    obtain ⟨⟨t413, t414, t417, t420, t421, t422, t423, t424⟩, A8, H⟩ := H
    try dsimp only at H
    replace H := bn H
    obtain ⟨t425, A9, H⟩ := H
    try dsimp only at H
    replace H := bn H
    obtain ⟨⟨t426, t427, t430, t433, t434, t435, t436, t437⟩, A10, H⟩ := H
    try dsimp only at H
    replace H := bn H
    obtain ⟨t439, A11, H⟩ := H
    try dsimp only at H
    have HU12 := Aside0.mk H
    clear H
    obtain ⟨z13_0, z13_1, z13_2, z13_3, z13_4, z13_5, z13_6, z13_7⟩ := ca8 BK411
    obtain ⟨f13_0, f13_1, f13_2, f13_3, f13_4, f13_5, f13_6, f13_7⟩ := fa8 BK411
    go_upto_if 21 with (first | ((with_reducible refine gf 10 ?_); refine gc Tryd.func10 (some 13) (laws_toWarp.calls _ _ A0_1 c0_1 _ A0_2 c0_2 _ _ _ _ _ _ _ _ _ _ _ _ _ _ _ (cb HR0_1) HC0_1.out (cb HR0_2) HC0_2.out A8.out) ?_; rintro e w14 ⟨v415, v418, rfl, ho0, ho1, hb⟩; refine ⟨_, rfl, ?_⟩; have HO416 := Aside0.mk (Kd.R_lower ho0 (below_size bw)); have HO419 := Aside0.mk (Kd.R_lower ho1 (below_size bw)); replace BK411 := b_ BK411 hb; replace HB := hs hb; try clear hb; (try clear ho0); (try clear ho1); obtain ⟨Ao15, co15, eo15⟩ := Kd.R_slice HO416.out; subst eo15; obtain ⟨Ao16, co16, eo16⟩ := Kd.R_slice HO419.out; subst eo16) | ((with_reducible refine gf 13 ?_); refine gc Tryd.func13 (some 14) (spec_WarpGroup.calls _ _ Ao15 co15 _ Ao16 co16 _ _ _ _ _ _ _ _ (cr HO416) ((Kd.R_reads' HO416.out).2.1) (cr HO419) ((Kd.R_reads' HO419.out).2.1) A9.out) ?_; rintro e w17 ⟨rfl, hb⟩; refine ⟨_, rfl, ?_⟩; replace HO416 := Aside0.mk (Kd.R_below (ro HO416) hb); replace HO419 := Aside0.mk (Kd.R_below (ro HO419) hb); replace BK411 := b_ BK411 hb; replace HB := hs hb; try clear hb; obtain ⟨z18_0, z18_1, z18_2, z18_3, z18_4, z18_5, z18_6, z18_7⟩ := ca8 BK411; obtain ⟨f18_0, f18_1, f18_2, f18_3, f18_4, f18_5, f18_6, f18_7⟩ := fa8 BK411) | ((with_reducible refine gf 10 ?_); refine gc Tryd.func10 (some 16) (laws_toWarp.calls _ _ A0_1 c0_1 _ A0_2 c0_2 _ _ _ _ _ _ _ _ _ _ _ _ _ _ _ (cb HR0_1) HC0_1.out (cb HR0_2) HC0_2.out A10.out) ?_; rintro e w19 ⟨v428, v431, rfl, ho0, ho1, hb⟩; refine ⟨_, rfl, ?_⟩; have HO429 := Aside0.mk (Kd.R_lower (Kd.R_new' (Kd.R_new' ho0 (Kd.R_lt (ro HO416))) (Kd.R_lt (ro HO419))) (below_size bw)); have HO432 := Aside0.mk (Kd.R_lower (Kd.R_new' (Kd.R_new' ho1 (Kd.R_lt (ro HO416))) (Kd.R_lt (ro HO419))) (below_size bw)); replace HO416 := Aside0.mk (Kd.R_mono (Kd.R_told (Kd.R_told (Kd.R_old (ro HO416) hb) (Kd.R_base ho0)) (Kd.R_base ho1)) (fun _ h_ => h_.1)); replace HO419 := Aside0.mk (Kd.R_mono (Kd.R_told (Kd.R_told (Kd.R_old (ro HO419) hb) (Kd.R_base ho0)) (Kd.R_base ho1)) (fun _ h_ => h_.1)); replace BK411 := b_ BK411 hb; replace HB := hs hb; try clear hb; (try clear ho0); (try clear ho1)) | ((with_reducible refine gd 5 ?_); refine bx 5 28 #[.int .i64 0, .slice none 0 0, .slice none 0 0, .int .u32 0, .int .i64 0, .int .i64 0, .int .i64 0, .int .u32 0] ?_; clear HB; intro gb438 w20 hg BK438 hb GE438 HB; replace HO416 := Aside0.mk (Kd.R_below (ro HO416) hb); replace HO419 := Aside0.mk (Kd.R_below (ro HO419) hb); replace HO429 := Aside0.mk (Kd.R_below (ro HO429) hb); replace HO432 := Aside0.mk (Kd.R_below (ro HO432) hb); have NB411_438 := nl BK411 hg; have NB438_411 := ng BK411 hg; replace BK411 := b_ BK411 hb; clear hb hg; have hnb21 := NB438_411.out; have hnc21 := NB411_438.out; obtain ⟨z22_0, z22_1, z22_2, z22_3, z22_4, z22_5, z22_6, z22_7⟩ := ca8 BK438; obtain ⟨f22_0, f22_1, f22_2, f22_3, f22_4, f22_5, f22_6, f22_7⟩ := fa8 BK438; obtain ⟨Ao23, co23, eo23⟩ := Kd.R_slice HO429.out; subst eo23; obtain ⟨Ao24, co24, eo24⟩ := Kd.R_slice HO432.out; subst eo24) | ((with_reducible refine gf 14 ?_); refine gl 14 Tryd.func14 (some 18) #[.agg #[.int .i64 t426, .slice Ao23 t427.length co23, .slice Ao24 t430.length co24, .int .u32 t433, .int .i64 t434, .int .i64 t435, .int .i64 t436, .int .u32 t437]] ?_; (with_reducible refine (impl_WarpGroup.calls _ _ _ _ _ _ _ _ _ _ _ _ _ _ _ ?side1 ?side2 ?side3 ?side4 A11.out (hT.below bw)).mono ?_); (case side1 => refine (Kd.R_reads' (e := 3) (base := w.heap.size) (ok := fun k_ => ((some k_ ≠ (.slice Ao24 t430.length co24 : Value).ownBlock ∧ some k_ ≠ (.slice Ao15 t414.length co15 : Value).ownBlock) ∧ some k_ ≠ (.slice Ao16 t417.length co16 : Value).ownBlock)) (n := t427.length) (c := co23) ?_).2.2; exact (by (with_reducible repeat (first | apply Kd.R_alloc | apply Kd.R_drewN | apply Kd.R_drew)); exact (Kd.R_mono (Kd.R_far (p := ⟨gb438, 7, none⟩) (Kd.R_far (p := ⟨gb438, 6, none⟩) (Kd.R_far (p := ⟨gb438, 5, none⟩) (Kd.R_far (p := ⟨gb438, 4, none⟩) (Kd.R_far (p := ⟨gb438, 3, none⟩) (Kd.R_far (p := ⟨gb438, 2, none⟩) (Kd.R_far (p := ⟨gb438, 1, none⟩) (Kd.R_far (p := ⟨gb438, 0, none⟩) (Kd.R_types HO429.out BK438.out (by decide)) (fun _ hk => hk.2) (.int .i64 t426)) (fun _ hk => hk.2) (.slice Ao23 t427.length co23)) (fun _ hk => hk.2) (.slice Ao24 t430.length co24)) (fun _ hk => hk.2) (.int .u32 t433)) (fun _ hk => hk.2) (.int .i64 t434)) (fun _ hk => hk.2) (.int .i64 t435)) (fun _ hk => hk.2) (.int .i64 t436)) (fun _ hk => hk.2) (.int .u32 t437)) (fun _ h_ => h_.1)))); (case side2 => exact (Kd.R_reads' HO429.out).2.1); (case side3 => refine (Kd.R_reads' (e := 3) (base := w.heap.size) (ok := fun k_ => ((some k_ ≠ (.slice Ao23 t427.length co23 : Value).ownBlock ∧ some k_ ≠ (.slice Ao15 t414.length co15 : Value).ownBlock) ∧ some k_ ≠ (.slice Ao16 t417.length co16 : Value).ownBlock)) (n := t430.length) (c := co24) ?_).2.2; exact (by (with_reducible repeat (first | apply Kd.R_alloc | apply Kd.R_drewN | apply Kd.R_drew)); exact (Kd.R_mono (Kd.R_far (p := ⟨gb438, 7, none⟩) (Kd.R_far (p := ⟨gb438, 6, none⟩) (Kd.R_far (p := ⟨gb438, 5, none⟩) (Kd.R_far (p := ⟨gb438, 4, none⟩) (Kd.R_far (p := ⟨gb438, 3, none⟩) (Kd.R_far (p := ⟨gb438, 2, none⟩) (Kd.R_far (p := ⟨gb438, 1, none⟩) (Kd.R_far (p := ⟨gb438, 0, none⟩) (Kd.R_types HO432.out BK438.out (by decide)) (fun _ hk => hk.2) (.int .i64 t426)) (fun _ hk => hk.2) (.slice Ao23 t427.length co23)) (fun _ hk => hk.2) (.slice Ao24 t430.length co24)) (fun _ hk => hk.2) (.int .u32 t433)) (fun _ hk => hk.2) (.int .i64 t434)) (fun _ hk => hk.2) (.int .i64 t435)) (fun _ hk => hk.2) (.int .i64 t436)) (fun _ hk => hk.2) (.int .u32 t437)) (fun _ h_ => h_.1)))); (case side4 => exact (Kd.R_reads' HO432.out).2.1); rintro e w25 ⟨rfl, hb⟩; refine ⟨_, rfl, ?_⟩; replace HO416 := Aside0.mk (Kd.R_below (by (with_reducible repeat (first | apply Kd.R_alloc | apply Kd.R_drewN | apply Kd.R_drew)); exact (Kd.R_mono (Kd.R_far (p := ⟨gb438, 7, none⟩) (Kd.R_far (p := ⟨gb438, 6, none⟩) (Kd.R_far (p := ⟨gb438, 5, none⟩) (Kd.R_far (p := ⟨gb438, 4, none⟩) (Kd.R_far (p := ⟨gb438, 3, none⟩) (Kd.R_far (p := ⟨gb438, 2, none⟩) (Kd.R_far (p := ⟨gb438, 1, none⟩) (Kd.R_far (p := ⟨gb438, 0, none⟩) (Kd.R_types HO416.out BK438.out (by decide)) (fun _ hk => hk.2) (.int .i64 t426)) (fun _ hk => hk.2) (.slice Ao23 t427.length co23)) (fun _ hk => hk.2) (.slice Ao24 t430.length co24)) (fun _ hk => hk.2) (.int .u32 t433)) (fun _ hk => hk.2) (.int .i64 t434)) (fun _ hk => hk.2) (.int .i64 t435)) (fun _ hk => hk.2) (.int .i64 t436)) (fun _ hk => hk.2) (.int .u32 t437)) (fun _ h_ => h_.1))) hb); replace HO419 := Aside0.mk (Kd.R_below (by (with_reducible repeat (first | apply Kd.R_alloc | apply Kd.R_drewN | apply Kd.R_drew)); exact (Kd.R_mono (Kd.R_far (p := ⟨gb438, 7, none⟩) (Kd.R_far (p := ⟨gb438, 6, none⟩) (Kd.R_far (p := ⟨gb438, 5, none⟩) (Kd.R_far (p := ⟨gb438, 4, none⟩) (Kd.R_far (p := ⟨gb438, 3, none⟩) (Kd.R_far (p := ⟨gb438, 2, none⟩) (Kd.R_far (p := ⟨gb438, 1, none⟩) (Kd.R_far (p := ⟨gb438, 0, none⟩) (Kd.R_types HO419.out BK438.out (by decide)) (fun _ hk => hk.2) (.int .i64 t426)) (fun _ hk => hk.2) (.slice Ao23 t427.length co23)) (fun _ hk => hk.2) (.slice Ao24 t430.length co24)) (fun _ hk => hk.2) (.int .u32 t433)) (fun _ hk => hk.2) (.int .i64 t434)) (fun _ hk => hk.2) (.int .i64 t435)) (fun _ hk => hk.2) (.int .i64 t436)) (fun _ hk => hk.2) (.int .u32 t437)) (fun _ h_ => h_.1))) hb); replace HO429 := Aside0.mk (Kd.R_below (by (with_reducible repeat (first | apply Kd.R_alloc | apply Kd.R_drewN | apply Kd.R_drew)); exact (Kd.R_mono (Kd.R_far (p := ⟨gb438, 7, none⟩) (Kd.R_far (p := ⟨gb438, 6, none⟩) (Kd.R_far (p := ⟨gb438, 5, none⟩) (Kd.R_far (p := ⟨gb438, 4, none⟩) (Kd.R_far (p := ⟨gb438, 3, none⟩) (Kd.R_far (p := ⟨gb438, 2, none⟩) (Kd.R_far (p := ⟨gb438, 1, none⟩) (Kd.R_far (p := ⟨gb438, 0, none⟩) (Kd.R_types HO429.out BK438.out (by decide)) (fun _ hk => hk.2) (.int .i64 t426)) (fun _ hk => hk.2) (.slice Ao23 t427.length co23)) (fun _ hk => hk.2) (.slice Ao24 t430.length co24)) (fun _ hk => hk.2) (.int .u32 t433)) (fun _ hk => hk.2) (.int .i64 t434)) (fun _ hk => hk.2) (.int .i64 t435)) (fun _ hk => hk.2) (.int .i64 t436)) (fun _ hk => hk.2) (.int .u32 t437)) (fun _ h_ => h_.1))) hb); replace HO432 := Aside0.mk (Kd.R_below (by (with_reducible repeat (first | apply Kd.R_alloc | apply Kd.R_drewN | apply Kd.R_drew)); exact (Kd.R_mono (Kd.R_far (p := ⟨gb438, 7, none⟩) (Kd.R_far (p := ⟨gb438, 6, none⟩) (Kd.R_far (p := ⟨gb438, 5, none⟩) (Kd.R_far (p := ⟨gb438, 4, none⟩) (Kd.R_far (p := ⟨gb438, 3, none⟩) (Kd.R_far (p := ⟨gb438, 2, none⟩) (Kd.R_far (p := ⟨gb438, 1, none⟩) (Kd.R_far (p := ⟨gb438, 0, none⟩) (Kd.R_types HO432.out BK438.out (by decide)) (fun _ hk => hk.2) (.int .i64 t426)) (fun _ hk => hk.2) (.slice Ao23 t427.length co23)) (fun _ hk => hk.2) (.slice Ao24 t430.length co24)) (fun _ hk => hk.2) (.int .u32 t433)) (fun _ hk => hk.2) (.int .i64 t434)) (fun _ hk => hk.2) (.int .i64 t435)) (fun _ hk => hk.2) (.int .i64 t436)) (fun _ hk => hk.2) (.int .u32 t437)) (fun _ h_ => h_.1))) hb); replace BK411 := b_ BK411 hb; replace BK438 := bq BK438 #[.int .i64 t426, .slice Ao23 t427.length co23, .slice Ao24 t430.length co24, .int .u32 t433, .int .i64 t434, .int .i64 t435, .int .i64 t436, .int .u32 t437] hb; replace HB := hs hb; try clear hb))
    (try refine ap ?_)
    have H := HU12.out
    clear HU12
    replace H := ieq H
    rcases H with ⟨c26b0, c26b1, H⟩ | ⟨c26, c26b0, c26b1, H⟩
    · (first | rw [c26b0] | (simp only [i64_w, i32_w]; rw [c26b0]) | (simp only [c26b2, Bool.not_true, Bool.not_false]) | (simp only [c26b1, Bool.not_true, Bool.not_false]) | skip)
      replace H := bn H
      obtain ⟨⟨t440, t441, t444, t447, t448, t449, t450, t451⟩, A27, H⟩ := H
      try dsimp only at H
      replace H := bn H
      obtain ⟨t452, A28, H⟩ := H
      try dsimp only at H
      have HU29 := Aside0.mk H
      clear H
      try go_wp2
      replace HO416 := Aside0.mk (Kd.R_drew HO416.out)
      replace HO419 := Aside0.mk (Kd.R_drew HO419.out)
      replace HO429 := Aside0.mk (Kd.R_drew HO429.out)
      replace HO432 := Aside0.mk (Kd.R_drew HO432.out)
      replace BK411 := bd BK411
      replace BK438 := bd BK438
      replace HB := hd HB
      refine st0 5 (fun w' => CA w' gb438 0 [.int .i64 t426, .slice Ao23 t427.length co23, .slice Ao24 t430.length co24, .int .u32 t433, .int .i64 t434, .int .i64 t435, .int .i64 t436, .int .u32 t437] ∧ CA w' gb411 0 [.int .i64 a0_0, .slice A0_1 l0_1.length c0_1, .slice A0_2 l0_2.length c0_2, .int .u32 a0_3, .int .i64 a0_4, .int .i64 a0_5, .int .i64 a0_6, .int .u32 a0_7]) [] ⟨cx BK438, cx BK411⟩ ?_; intro hHeld
      generalize w25.drew = w30 at HO416 HO419 HO429 HO432 BK411 BK438 HB hHeld ⊢
      refine tk 0 22 (bl 5 1) ?_
      refine tk 1 23 (bl 5 3) ?_
      refine on_ 2 (some 24) (bl 5 7) (fun K hK => ?_)
      refine gq Tryd.func10 (laws_toWarp.calls _ _ A0_1 c0_1 _ A0_2 c0_2 _ _ _ _ _ _ _ _ _ _ _ _ _ _ _ (cb HR0_1) HC0_1.out (cb HR0_2) HC0_2.out A27.out) ?_
      rintro e w31 ⟨v442, v445, rfl, ho0, ho1, hb⟩
      refine ⟨_, rfl, ?_⟩
      have HO443 := Aside0.mk (Kd.R_lower (Kd.R_new' (Kd.R_new' (Kd.R_new' (Kd.R_new' ho0 (Kd.R_lt (ro HO416))) (Kd.R_lt (ro HO419))) (Kd.R_lt (ro HO429))) (Kd.R_lt (ro HO432))) (below_size bw))
      have HO446 := Aside0.mk (Kd.R_lower (Kd.R_new' (Kd.R_new' (Kd.R_new' (Kd.R_new' ho1 (Kd.R_lt (ro HO416))) (Kd.R_lt (ro HO419))) (Kd.R_lt (ro HO429))) (Kd.R_lt (ro HO432))) (below_size bw))
      replace HO416 := Aside0.mk (Kd.R_mono (Kd.R_told (Kd.R_told (Kd.R_old (ro HO416) hb) (Kd.R_base ho0)) (Kd.R_base ho1)) (fun _ h_ => h_.1))
      replace HO419 := Aside0.mk (Kd.R_mono (Kd.R_told (Kd.R_told (Kd.R_old (ro HO419) hb) (Kd.R_base ho0)) (Kd.R_base ho1)) (fun _ h_ => h_.1))
      replace HO429 := Aside0.mk (Kd.R_mono (Kd.R_told (Kd.R_told (Kd.R_old (ro HO429) hb) (Kd.R_base ho0)) (Kd.R_base ho1)) (fun _ h_ => h_.1))
      replace HO432 := Aside0.mk (Kd.R_mono (Kd.R_told (Kd.R_told (Kd.R_old (ro HO432) hb) (Kd.R_base ho0)) (Kd.R_base ho1)) (fun _ h_ => h_.1))
      replace BK411 := b_ BK411 hb
      replace BK438 := b_ BK438 hb
      replace HB := hs hb
      (try clear hb)
      (try clear hb2)
      (try clear hk)
      (try clear hi)
      (try clear ho0)
      (try clear ho1)
      obtain ⟨Ao32, co32, eo32⟩ := Kd.R_slice HO443.out
      (first | subst eo32 | (injection eo32 with f1_ f2_ f3_; have f4_ := f1_.symm; have f5_ := f3_.symm; clear f1_ f2_ f3_; subst f4_; subst f5_))
      obtain ⟨Ao33, co33, eo33⟩ := Kd.R_slice HO446.out
      (first | subst eo33 | (injection eo33 with f1_ f2_ f3_; have f4_ := f1_.symm; have f5_ := f3_.symm; clear f1_ f2_ f3_; subst f4_; subst f5_))
      refine hK.out _ _ ⟨cx BK438, cx BK411⟩ (fun hHeld => ?_)
      clear hK K
      refine nm ?_
      refine on_ 3 (some 25) (bl 5 15) (fun K hK => ?_)
      refine gq Tryd.func12 (laws_eqWarp.calls _ _ Ao23 co23 _ Ao24 co24 _ _ _ _ _ _ _ Ao32 co32 _ Ao33 co33 _ _ _ _ _ _ _ _ (cr HO429) ((Kd.R_reads' HO429.out).2.1) (cr HO432) ((Kd.R_reads' HO432.out).2.1) (cr HO443) ((Kd.R_reads' HO443.out).2.1) (cr HO446) ((Kd.R_reads' HO446.out).2.1) A28.out) ?_
      rintro e w34 ⟨rfl, hb⟩
      refine ⟨_, rfl, ?_⟩
      replace HO416 := Aside0.mk (Kd.R_below (ro HO416) hb)
      replace HO419 := Aside0.mk (Kd.R_below (ro HO419) hb)
      replace HO429 := Aside0.mk (Kd.R_below (ro HO429) hb)
      replace HO432 := Aside0.mk (Kd.R_below (ro HO432) hb)
      replace HO443 := Aside0.mk (Kd.R_below (ro HO443) hb)
      replace HO446 := Aside0.mk (Kd.R_below (ro HO446) hb)
      replace BK411 := b_ BK411 hb
      replace BK438 := b_ BK438 hb
      replace HB := hs hb
      (try clear hb)
      (try clear hb2)
      (try clear hk)
      (try clear hi)
      refine hK.out _ _ ⟨cx BK438, cx BK411⟩ (fun hHeld => ?_)
      clear hK K
      refine nm ?_
      refine pu 4 26 (bl 5 31) ?_
      refine dn ?_ _
      go_upto_if 26 with (fail)
      have H := HU29.out
      clear HU29
      replace H := ib H
      rcases H with ⟨rfl, H⟩ | ⟨rfl, H⟩
      · (try simp only [Bool.not_true, Bool.not_false])
        obtain rfl := Option.some.inj H
        go_wp2
        go_ret
        exact ⟨rt, bw⟩
      · (try simp only [Bool.not_true, Bool.not_false])
        obtain rfl := Option.some.inj H
        go_wp2
        go_ret
        exact ⟨rt, bw⟩
    · (first | rw [c26b0] | (simp only [i64_w, i32_w]; rw [c26b0]) | (simp only [c26b2, Bool.not_true, Bool.not_false]) | (simp only [c26b1, Bool.not_true, Bool.not_false]) | skip)
      obtain rfl := Option.some.inj H
      go_wp2
      go_ret
      exact ⟨rt, bw⟩

/-- THE ONE PURE STATEMENT of laws_FnExactWarpGroup: yours. -/
def laws_FnExactWarpGroup.Pure : Prop := ∀ (a0_0 : Int) (l0_1 : List Int) (l0_2 : List Int) (a0_3 : Int) (a0_4 : Int) (a0_5 : Int) (a0_6 : Int) (a0_7 : Int), (Lit.int .i64 a0_0).wf = true → (l0_1.length ≤ 9223372036854775807 ∧ ∀ x_ ∈ l0_1, (Lit.int .i64 x_).wf = true) → (l0_2.length ≤ 9223372036854775807 ∧ ∀ x_ ∈ l0_2, (Lit.int .i64 x_).wf = true) → (Lit.int .u32 a0_3).wf = true → (Lit.int .i64 a0_4).wf = true → (Lit.int .i64 a0_5).wf = true → (Lit.int .i64 a0_6).wf = true → (Lit.int .u32 a0_7).wf = true → ∃ k, laws_FnExactWarpGroup.f k a0_0 l0_1 l0_2 a0_3 a0_4 a0_5 a0_6 a0_7 = some true

end Go.Proofs.YtfhcnnkeokjfpaaDoor.PB1
