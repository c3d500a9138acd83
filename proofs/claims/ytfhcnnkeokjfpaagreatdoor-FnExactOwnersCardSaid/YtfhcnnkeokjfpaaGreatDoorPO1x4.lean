/- What functions of the program compute, each as a Lean function, and that the run comes to just that. Conditions: none. -/
import Derived.Test.YtfhcnnkeokjfpaaGreatDoorTO1
import Derived.Test.YtfhcnnkeokjfpaaGreatDoorPO1x0
import Derived.Test.YtfhcnnkeokjfpaaGreatDoorPO1x3
namespace Go.Proofs.YtfhcnnkeokjfpaaGreatDoor.PO1
open Go.RowKit Go.Proofs.YtfhcnnkeokjfpaaGreatDoorW.PrintWords Go.Proofs.YtfhcnnkeokjfpaaGreatDoorW.PrintLast Go.Proofs.YtfhcnnkeokjfpaaGreatDoorW.PrintMore Go.Proofs.YtfhcnnkeokjfpaaGreatDoor.T
attribute [local go_sem] max2_int min2_int max_two min_two max_three min_three max_four min_four   -- for this text's walks alone
set_option linter.unusedVariables false
set_option linter.unusedSimpArgs false

theorem shl_one_ (n : Int) : shl IntKind.u32 1 n = 2 ^ n.toNat % 4294967296 := by
 have e : shl IntKind.u32 1 n = IntKind.u32.wrap (1 * 2 ^ min n.toNat 32) := rfl
 rw [e]
 have w : ∀ x : Int, IntKind.u32.wrap x = x % 4294967296 := fun x => by simp [IntKind.wrap, IntKind.signed, IntKind.bits]
 rw [w, Int.one_mul]
 by_cases h : n.toNat ≤ 32
 ·rw [Nat.min_eq_left h]
 ·rw [Nat.min_eq_right (by omega)]
  obtain ⟨d, hd⟩ : ∃ d, n.toNat = 32 + d := ⟨n.toNat - 32, by omega⟩
  rw [hd, Int.pow_add]
  have h2 : (2 : Int) ^ 32 = 4294967296 := by decide
  rw [h2]
  omega

/-! ### impl_isMask: function 59 -/
def impl_isMask.f (a0 : Int) : Option (Bool) := some (decide (a0 < 256))
set_option maxHeartbeats 2000000 in
set_option maxRecDepth 100000 in
theorem impl_isMask.calls (a0 : Int) (r : Bool) (w : World) (h : impl_isMask.f a0 = some r) :
  Calls Tryz.prog 59 #[.int .u32 a0] w fun e w' => e = .returned (.bool r) ∧ Drawn0 w w' := by
 unfold impl_isMask.f at h
 have H := h
 clear h
 obtain rfl := Option.some.inj H
 go_enter Tryz.func59, Tryz.ntmps59
 go_wp2
 go_ret
 exact ⟨ev, dr⟩

/-! ### impl_asks: function 61 -/
def impl_asks.l0 : Nat → Int → List Int → Int → Int → Int → List Int → Option (Int)
 | 0, _, _, _, _, _, _ => none
 | k + 1, x3, x7, x8, x9, x425000, x425001 => if x9 < x8 then (if 0 ≤ x9 then (if x9 < (x7.length : Int) then (if x425000 = 1 then (if (rd x7 x9) > 0 then (impl_asks.l0 k (Go.bits .or .u32 x3 (shl .u32 1 x9)) x7 x8 (wrap64 (x9 + 1)) x425000 x425001) else (if x425000 = 2 then (if (rd x7 x9) ≥ 0 then (impl_asks.l0 k (Go.bits .or .u32 x3 (shl .u32 1 x9)) x7 x8 (wrap64 (x9 + 1)) x425000 x425001) else (impl_asks.l0 k x3 x7 x8 (wrap64 (x9 + 1)) x425000 x425001)) else (impl_asks.l0 k x3 x7 x8 (wrap64 (x9 + 1)) x425000 x425001))) else (if x425000 = 2 then (if (rd x7 x9) ≥ 0 then (impl_asks.l0 k (Go.bits .or .u32 x3 (shl .u32 1 x9)) x7 x8 (wrap64 (x9 + 1)) x425000 x425001) else (impl_asks.l0 k x3 x7 x8 (wrap64 (x9 + 1)) x425000 x425001)) else (impl_asks.l0 k x3 x7 x8 (wrap64 (x9 + 1)) x425000 x425001))) else (none)) else (none)) else (some x3)
def impl_asks.f (k : Nat) (a0_0 : Int) (l0_1 : List Int) : Option (Int) := impl_asks.l0 k 0 l0_1 (l0_1.length : Int) 0 a0_0 l0_1
theorem impl_asks.mono_l : ∀ k, (∀ y0 y1 y2 y3 y4 y5, LeO (impl_asks.l0 k y0 y1 y2 y3 y4 y5) (impl_asks.l0 (k + 1) y0 y1 y2 y3 y4 y5))
 | 0 => fun _ _ _ _ _ _ r h => by simp [impl_asks.l0] at h
 | k + 1 => by
  have ih0 := impl_asks.mono_l k
  ·intro y0 y1 y2 y3 y4 y5
   unfold impl_asks.l0
   repeat' first
    | (with_reducible first | exact ih0 .. | exact LeO.refl _ | exact LeO.none _ | refine LeO.ite ?_ ?_ | refine LeO.bind ?_ (fun _ => ?_))
    | exact LeO.none _ | refine LeO.ite ?_ ?_ | refine LeO.bind ?_ (fun _ => ?_)
theorem impl_asks.mono : ∀ a0 a1 k, LeO (impl_asks.f k a0 a1) (impl_asks.f (k + 1) a0 a1) := by
 intro a0 a1 k
 have ih0 := impl_asks.mono_l k
 unfold impl_asks.f
 repeat' first
  | (with_reducible first | exact ih0 .. | exact LeO.refl _ | exact LeO.none _ | refine LeO.ite ?_ ?_ | refine LeO.bind ?_ (fun _ => ?_))
  | exact LeO.none _ | refine LeO.ite ?_ ?_ | refine LeO.bind ?_ (fun _ => ?_)
set_option maxHeartbeats 2000000 in
set_option maxRecDepth 100000 in
theorem impl_asks.calls (k : Nat) (a0_0 : Int) (A0_1 : Option Addr) (c0_1 : Nat) (l0_1 : List Int) (r : Int) (w : World) (hr0_1 : Kd.C (Kd.int .i64) w A0_1 l0_1.length l0_1) (hc0_1 : l0_1.length ≤ c0_1) (h : impl_asks.f k a0_0 l0_1 = some r) :
  Calls Tryz.prog 61 #[.agg #[.int .i64 a0_0, .slice A0_1 l0_1.length c0_1]] w fun e w' => e = .returned (.int .u32 r) ∧ Below w.heap.size w w' := by
 have hu77 := Tryz.underlying77
 have HR0_1 := Aside0.mk hr0_1
 have HC0_1 := Aside0.mk hc0_1
 clear hr0_1 hc0_1
 have HB := Aside0.mk (Below.refl w.heap.size w)
 unfold impl_asks.f at h
 have H := h
 clear h
 have H' := Aside0.mk H
 clear H
 go_enter Tryz.func61, Tryz.ntmps61
 go_wp2_with (first | ((with_reducible refine gd 1 ?_); refine bx 1 77 #[.int .i64 a0_0, .slice A0_1 l0_1.length c0_1] ?_; clear HB; intro gb424 w2 hg BK424 hb GE424 HB; clear hb hg; obtain ⟨z3_0, z3_1⟩ := ca2 BK424; obtain ⟨f3_0, f3_1⟩ := fa2 BK424))
 go_loopg [3, 9] k (fun kq v3 v9 w' => ∃ (x3_1 : Int) (x9_1 : Int), v3 = .int .u32 x3_1 ∧ v9 = .int .i64 x9_1 ∧ Aside0 (impl_asks.l0 kq x3_1 l0_1 (l0_1.length : Int) x9_1 a0_0 l0_1 = some r) ∧ Aside0 (kq ≤ k) ∧ Aside0 (w'.heap[gb424]? = some (.cells #[.int .i64 a0_0, (.slice A0_1 l0_1.length c0_1)] 77 (0, 0))) ∧ Aside0 (Below w.heap.size w w'))
 case atStart => exact ⟨(0), (0), ev, ev, H', ⟨Nat.le_refl _⟩, ⟨bk BK424⟩, ⟨bw⟩⟩
 case round =>
  clear H'
  (try clear z3_0 z3_1)
  (try clear f3_0 f3_1)
  obtain ⟨x3_1, x9_1, rfl, rfl, HA, HK1, BK424, HB⟩ := hrel
  cases gk with
  | zero => exact absurd HA.out (by simp [impl_asks.l0])
  | succ k1 =>
   have H := HA.out
   clear HA
   simp only [impl_asks.l0] at H
   replace H := ilt H
   rcases H with ⟨c4b0, H⟩ | ⟨c4b0, H⟩
   ·by_cases c5 : 0 ≤ x9_1
    ·rw [if_pos c5] at H
     have c5b0 : decide (0 ≤ x9_1) = true := decide_eq_true c5
     clear c5
     by_cases c6 : x9_1 < (l0_1.length : Int)
     ·rw [if_pos c6] at H
      have c6b0 : decide (x9_1 < (l0_1.length : Int)) = true := decide_eq_true c6
      clear c6
      replace H := ieq H
      rcases H with ⟨c7b0, c7b1, H⟩ | ⟨c7, c7b0, c7b1, H⟩
      ·replace H := igt H
       rcases H with ⟨c8b0, H⟩ | ⟨c8b0, H⟩
       ·have c9b0 := eq_true (of_decide_eq_true as_ : 0 ≤ x9_1)
        obtain ⟨ji10, hji10⟩ : ∃ j_ : Int, (shl .u32 1 x9_1) = j_ := ⟨_, rfl⟩
        first | rw [hji10] at H | simp only [hji10] at H
        have hji10_ : (IntKind.u32.wrap (1 * 2 ^ min x9_1.toNat 32)) = ji10 := hji10
        have hji10z : x9_1 ≤ 32 → (IntKind.u32.wrap (1 * 2 ^ x9_1.toNat)) = ji10 := shl_small hji10
        have hji10u : (IntKind.u32.wrap (2 ^ min x9_1.toNat 32)) = ji10 := by have h_ := hji10_; rw [Int.one_mul] at h_; exact h_
        have hji10v : x9_1 ≤ 32 → (IntKind.u32.wrap (2 ^ x9_1.toNat)) = ji10 := fun hle_ => by have h_ := hji10z hle_; rw [Int.one_mul] at h_; exact h_
        have H' := Aside0.mk H
        clear H
        have p425 : 0 ≤ (x9_1 : Int) := of_decide_eq_true as_
        have q425 : x9_1 < (l0_1.length : Int) := of_decide_eq_true as_
        obtain ⟨ad425, e425, hx425_0⟩ := Kd.at_int HR0_1.out x9_1 p425 q425
        cases e425
        replace hx425_0 := cl HB hx425_0
        replace p425 := eq_true p425
        replace q425 := eq_true q425
        obtain ⟨z11_0, z11_1⟩ := ca2 BK424
        obtain ⟨f11_0, f11_1⟩ := fa2 BK424
        go_wp2
        go_roundg k1
        case measure => have := HK1.out; omega
        case rel => exact ⟨(Go.bits .or .u32 x3_1 (ji10)), (wrap64 (x9_1 + 1)), (by first | rfl | (simp; done) | (simp only [← hji10] <;> (first | rfl | (rw [shl_one_]; done) | simp)) | (simp [*]; done)), ev, H', ⟨oa HK1⟩, ⟨bk BK424⟩, ⟨bw⟩⟩
       ·replace H := ieq H
        rcases H with ⟨c12b0, c12b1, H⟩ | ⟨c12, c12b0, c12b1, H⟩
        ·replace H := ige H
         rcases H with ⟨c13b0, H⟩ | ⟨c13b0, H⟩
         ·have c14b0 := eq_true (of_decide_eq_true as_ : 0 ≤ x9_1)
          obtain ⟨ji15, hji15⟩ : ∃ j_ : Int, (shl .u32 1 x9_1) = j_ := ⟨_, rfl⟩
          first | rw [hji15] at H | simp only [hji15] at H
          have hji15_ : (IntKind.u32.wrap (1 * 2 ^ min x9_1.toNat 32)) = ji15 := hji15
          have hji15z : x9_1 ≤ 32 → (IntKind.u32.wrap (1 * 2 ^ x9_1.toNat)) = ji15 := shl_small hji15
          have hji15u : (IntKind.u32.wrap (2 ^ min x9_1.toNat 32)) = ji15 := by have h_ := hji15_; rw [Int.one_mul] at h_; exact h_
          have hji15v : x9_1 ≤ 32 → (IntKind.u32.wrap (2 ^ x9_1.toNat)) = ji15 := fun hle_ => by have h_ := hji15z hle_; rw [Int.one_mul] at h_; exact h_
          have H' := Aside0.mk H
          clear H
          have p425 : 0 ≤ (x9_1 : Int) := of_decide_eq_true as_
          have q425 : x9_1 < (l0_1.length : Int) := of_decide_eq_true as_
          obtain ⟨ad425, e425, hx425_0⟩ := Kd.at_int HR0_1.out x9_1 p425 q425
          cases e425
          replace hx425_0 := cl HB hx425_0
          replace p425 := eq_true p425
          replace q425 := eq_true q425
          obtain ⟨z16_0, z16_1⟩ := ca2 BK424
          obtain ⟨f16_0, f16_1⟩ := fa2 BK424
          go_wp2
          go_roundg k1
          case measure => have := HK1.out; omega
          case rel => exact ⟨(Go.bits .or .u32 x3_1 (ji15)), (wrap64 (x9_1 + 1)), (by first | rfl | (simp; done) | (simp only [← hji15] <;> (first | rfl | (rw [shl_one_]; done) | simp)) | (simp [*]; done)), ev, H', ⟨oa HK1⟩, ⟨bk BK424⟩, ⟨bw⟩⟩
         ·have H' := Aside0.mk H
          clear H
          have p425 : 0 ≤ (x9_1 : Int) := of_decide_eq_true as_
          have q425 : x9_1 < (l0_1.length : Int) := of_decide_eq_true as_
          obtain ⟨ad425, e425, hx425_0⟩ := Kd.at_int HR0_1.out x9_1 p425 q425
          cases e425
          replace hx425_0 := cl HB hx425_0
          replace p425 := eq_true p425
          replace q425 := eq_true q425
          obtain ⟨z17_0, z17_1⟩ := ca2 BK424
          obtain ⟨f17_0, f17_1⟩ := fa2 BK424
          go_wp2
          go_roundg k1
          case measure => have := HK1.out; omega
          case rel => exact ⟨(x3_1), (wrap64 (x9_1 + 1)), ev, ev, H', ⟨oa HK1⟩, ⟨bk BK424⟩, ⟨bw⟩⟩
        ·have H' := Aside0.mk H
         clear H
         have p425 : 0 ≤ (x9_1 : Int) := of_decide_eq_true as_
         have q425 : x9_1 < (l0_1.length : Int) := of_decide_eq_true as_
         obtain ⟨ad425, e425, hx425_0⟩ := Kd.at_int HR0_1.out x9_1 p425 q425
         cases e425
         replace hx425_0 := cl HB hx425_0
         replace p425 := eq_true p425
         replace q425 := eq_true q425
         obtain ⟨z18_0, z18_1⟩ := ca2 BK424
         obtain ⟨f18_0, f18_1⟩ := fa2 BK424
         go_wp2
         go_roundg k1
         case measure => have := HK1.out; omega
         case rel => exact ⟨(x3_1), (wrap64 (x9_1 + 1)), ev, ev, H', ⟨oa HK1⟩, ⟨bk BK424⟩, ⟨bw⟩⟩
      ·replace H := ieq H
       rcases H with ⟨c19b0, c19b1, H⟩ | ⟨c19, c19b0, c19b1, H⟩
       ·replace H := ige H
        rcases H with ⟨c20b0, H⟩ | ⟨c20b0, H⟩
        ·have c21b0 := eq_true (of_decide_eq_true as_ : 0 ≤ x9_1)
         obtain ⟨ji22, hji22⟩ : ∃ j_ : Int, (shl .u32 1 x9_1) = j_ := ⟨_, rfl⟩
         first | rw [hji22] at H | simp only [hji22] at H
         have hji22_ : (IntKind.u32.wrap (1 * 2 ^ min x9_1.toNat 32)) = ji22 := hji22
         have hji22z : x9_1 ≤ 32 → (IntKind.u32.wrap (1 * 2 ^ x9_1.toNat)) = ji22 := shl_small hji22
         have hji22u : (IntKind.u32.wrap (2 ^ min x9_1.toNat 32)) = ji22 := by have h_ := hji22_; rw [Int.one_mul] at h_; exact h_
         have hji22v : x9_1 ≤ 32 → (IntKind.u32.wrap (2 ^ x9_1.toNat)) = ji22 := fun hle_ => by have h_ := hji22z hle_; rw [Int.one_mul] at h_; exact h_
         have H' := Aside0.mk H
         clear H
         have p425 : 0 ≤ (x9_1 : Int) := of_decide_eq_true as_
         have q425 : x9_1 < (l0_1.length : Int) := of_decide_eq_true as_
         obtain ⟨ad425, e425, hx425_0⟩ := Kd.at_int HR0_1.out x9_1 p425 q425
         cases e425
         replace hx425_0 := cl HB hx425_0
         replace p425 := eq_true p425
         replace q425 := eq_true q425
         obtain ⟨z23_0, z23_1⟩ := ca2 BK424
         obtain ⟨f23_0, f23_1⟩ := fa2 BK424
         go_wp2
         go_roundg k1
         case measure => have := HK1.out; omega
         case rel => exact ⟨(Go.bits .or .u32 x3_1 (ji22)), (wrap64 (x9_1 + 1)), (by first | rfl | (simp; done) | (simp only [← hji22] <;> (first | rfl | (rw [shl_one_]; done) | simp)) | (simp [*]; done)), ev, H', ⟨oa HK1⟩, ⟨bk BK424⟩, ⟨bw⟩⟩
        ·have H' := Aside0.mk H
         clear H
         have p425 : 0 ≤ (x9_1 : Int) := of_decide_eq_true as_
         have q425 : x9_1 < (l0_1.length : Int) := of_decide_eq_true as_
         obtain ⟨ad425, e425, hx425_0⟩ := Kd.at_int HR0_1.out x9_1 p425 q425
         cases e425
         replace hx425_0 := cl HB hx425_0
         replace p425 := eq_true p425
         replace q425 := eq_true q425
         obtain ⟨z24_0, z24_1⟩ := ca2 BK424
         obtain ⟨f24_0, f24_1⟩ := fa2 BK424
         go_wp2
         go_roundg k1
         case measure => have := HK1.out; omega
         case rel => exact ⟨(x3_1), (wrap64 (x9_1 + 1)), ev, ev, H', ⟨oa HK1⟩, ⟨bk BK424⟩, ⟨bw⟩⟩
       ·have H' := Aside0.mk H
        clear H
        have p425 : 0 ≤ (x9_1 : Int) := of_decide_eq_true as_
        have q425 : x9_1 < (l0_1.length : Int) := of_decide_eq_true as_
        obtain ⟨ad425, e425, hx425_0⟩ := Kd.at_int HR0_1.out x9_1 p425 q425
        cases e425
        replace hx425_0 := cl HB hx425_0
        replace p425 := eq_true p425
        replace q425 := eq_true q425
        obtain ⟨z25_0, z25_1⟩ := ca2 BK424
        obtain ⟨f25_0, f25_1⟩ := fa2 BK424
        go_wp2
        go_roundg k1
        case measure => have := HK1.out; omega
        case rel => exact ⟨(x3_1), (wrap64 (x9_1 + 1)), ev, ev, H', ⟨oa HK1⟩, ⟨bk BK424⟩, ⟨bw⟩⟩
     ·rw [if_neg c6] at H
      exact absurd H (by simp)
    ·rw [if_neg c5] at H
     exact absurd H (by simp)
   ·obtain rfl := Option.some.inj H
    go_wp2
    go_ret
    exact ⟨rt, bw⟩

end Go.Proofs.YtfhcnnkeokjfpaaGreatDoor.PO1
namespace Go.Proofs.YtfhcnnkeokjfpaaGreatDoor.PO1
open Go.RowKit Go.Proofs.YtfhcnnkeokjfpaaGreatDoorW.PrintWords Go.Proofs.YtfhcnnkeokjfpaaGreatDoorW.PrintLast Go.Proofs.YtfhcnnkeokjfpaaGreatDoorW.PrintMore Go.Proofs.YtfhcnnkeokjfpaaGreatDoor.T
attribute [local go_sem] max2_int min2_int max_two min_two max_three min_three max_four min_four   -- for this text's walks alone
set_option linter.unusedVariables false
set_option linter.unusedSimpArgs false

/-! ### impl_startsBlock: function 94 -/
def impl_startsBlock.f (a0_0 : Int) (a0_1 : Int) (a0_2 : Int) (a0_3 : Int) (a1 : Int) : Option (Bool) := if a0_0 = 1 then ((impl_within.f a1 0 15).bind fun t430 => (if t430 = true then (if 0 ≤ a0_1 then (if (shl .i64 (shr .i64 a1 a0_1) a0_1) = a1 then (if 0 ≤ (shr .i64 a1 a0_1) then (some ((Go.bits .and .u32 (shr .u32 a0_2 (shr .i64 a1 a0_1)) 1) == 1)) else (none)) else (some false)) else (none)) else (some false))) else (some false)
def impl_startsBlock.T1 : Bool × List (List Nat × List Nat) := (true, [([], []), ([0], [0]), ([1], [1]), ([2], [2]), ([3], [3]), ([4, 3, 3], [3, 4]), ([3, 5], [3, 5]), ([6, 5], [6]), ([7], [7]), ([7], [7]), ([9, 7], [7, 9]), ([8, 10, 7], [7, 8, 10]), ([7], [7]), ([12, 7], [7, 12]), ([11, 13, 7], [7, 11, 13]), ([7], [7]), ([14, 15, 7], [7, 14, 15]), ([7, 16], [7, 16]), ([17, 7], [17]), ([18], [18]), ([19, 18], [18, 19]), ([18], [18]), ([18], [18]), ([22, 18], [18, 22]), ([21, 23, 18], [18, 21, 23]), ([20, 24, 18], [18, 20, 24]), ([25, 18], [18, 25]), ([26, 18], [18, 26]), ([18, 27], [18, 27]), ([28, 18, 0, 1, 2, 3, 4, 5, 6, 7, 8, 9, 10, 11, 12, 13, 14, 15, 16, 17, 18, 19, 20, 21, 22, 23, 24, 25, 26, 27, 28], [28])])
def impl_startsBlock.B1 : List Nat := [0, 1, 3, 7, 15, 31, 63, 127, 255, 255, 767, 2047, 255, 4351, 16383, 255, 65535, 131071, 262143, 524287, 1048575, 524287, 524287, 4718591, 15204351, 33554431, 67108863, 134217727, 268435455, 536870911]
theorem impl_startsBlock.tab1 : rtab .any (opsOf Tryz.f94 1) = impl_startsBlock.T1 := kr
theorem impl_startsBlock.bits1 : waitsOk impl_startsBlock.T1.2 impl_startsBlock.B1 = true := kr
set_option maxHeartbeats 2000000 in
set_option maxRecDepth 100000 in
theorem impl_startsBlock.calls (a0_0 : Int) (a0_1 : Int) (a0_2 : Int) (a0_3 : Int) (a1 : Int) (r : Bool) (w : World) (h : impl_startsBlock.f a0_0 a0_1 a0_2 a0_3 a1 = some r) :
  Calls Tryz.prog 94 #[.agg #[.int .i64 a0_0, .int .i64 a0_1, .int .u32 a0_2, .int .i64 a0_3], .int .i64 a1] w fun e w' => e = .returned (.bool r) ∧ Below w.heap.size w w' := by
 have hu61 := Tryz.underlying61
 have HB := Aside0.mk (Below.refl w.heap.size w)
 unfold impl_startsBlock.f at h
 have H := h
 clear h
 replace H := ieq H
 rcases H with ⟨c3b0, c3b1, H⟩ | ⟨c3, c3b0, c3b1, H⟩
 ·replace H := bn H
  obtain ⟨t430, A4, H⟩ := H
  try dsimp only at H
  replace H := ib H
  rcases H with ⟨rfl, H⟩ | ⟨rfl, H⟩
  ·by_cases c6 : 0 ≤ a0_1
   ·rw [if_pos c6] at H
    have c6b0 := eq_true c6
    have c6b1 : decide (0 ≤ a0_1) = true := decide_eq_true c6
    clear c6
    obtain ⟨ji7, hji7⟩ : ∃ j_ : Int, (shr .i64 a1 a0_1) = j_ := ⟨_, rfl⟩
    first | rw [hji7] at H | simp only [hji7] at H
    (try rw [hji7] at A4)
    have hji7_ : (a1 / 2 ^ min a0_1.toNat 64) = ji7 := hji7
    have hji7z : a0_1 ≤ 64 → (a1 / 2 ^ a0_1.toNat) = ji7 := shr_small hji7
    have c8b0 := eq_true (of_decide_eq_true as_ : 0 ≤ a0_1)
    obtain ⟨ji9, hji9⟩ : ∃ j_ : Int, (shl .i64 (ji7) a0_1) = j_ := ⟨_, rfl⟩
    first | rw [hji9] at H | simp only [hji9] at H
    (try rw [hji9] at A4)
    have hji9_ : (IntKind.i64.wrap ((ji7) * 2 ^ min a0_1.toNat 64)) = ji9 := hji9
    have hji9z : a0_1 ≤ 64 → (IntKind.i64.wrap ((ji7) * 2 ^ a0_1.toNat)) = ji9 := shl_small hji9
    have hji9y : (wrap64 ((ji7) * 2 ^ min a0_1.toNat 64)) = ji9 := (i64_w _).symm.trans hji9_
    have hji9x : a0_1 ≤ 64 → (wrap64 ((ji7) * 2 ^ a0_1.toNat)) = ji9 := fun h_ => (i64_w _).symm.trans (hji9z h_)
    replace H := ieq H
    rcases H with ⟨c10b0, c10b1, H⟩ | ⟨c10, c10b0, c10b1, H⟩
    ·have c11b0 := eq_true (of_decide_eq_true as_ : 0 ≤ a0_1)
     by_cases c12 : 0 ≤ (ji7)
     ·rw [if_pos c12] at H
      have c12b0 := eq_true c12
      have c12b1 : decide (0 ≤ (ji7)) = true := decide_eq_true c12
      clear c12
      obtain ⟨ji13, hji13⟩ : ∃ j_ : Int, (shr .u32 a0_2 (ji7)) = j_ := ⟨_, rfl⟩
      first | rw [hji13] at H | simp only [hji13] at H
      (try rw [hji13] at A4)
      have hji13_ : (a0_2 / 2 ^ min (ji7).toNat 32) = ji13 := hji13
      have hji13z : (ji7) ≤ 32 → (a0_2 / 2 ^ (ji7).toNat) = ji13 := shr_small hji13
      obtain rfl := Option.some.inj H
      go_enter Tryz.func94, Tryz.ntmps94
      try go_wp2_with (first | ((with_reducible refine gd 2 ?_); refine bx 2 61 #[.int .i64 a0_0, .int .i64 a0_1, .int .u32 a0_2, .int .i64 a0_3] ?_; clear HB; intro gb429 w14 hg BK429 hb GE429 HB; clear hb hg))
      replace BK429 := bd BK429
      replace HB := hd HB
      refine st 30 (fun w' => CA w' gb429 0 [.int .i64 a0_0, .int .i64 a0_1, .int .u32 a0_2, .int .i64 a0_3]) [] (cx BK429) impl_startsBlock.tab1 impl_startsBlock.bits1 ?_; intro hHeld HT_ HW_
      generalize w14.drew = w15 at BK429 HB hHeld ⊢
      refine pu 0 5 (bl 30 1) ?_
      refine tk 1 6 (bl 30 3) ?_
      refine pu 2 7 (bl 30 7) ?_
      refine pu 3 8 (bl 30 15) ?_
      refine pu 4 9 (bl 30 31) ?_
      refine on_ 5 (some 10) (bl 30 63) (fun K hK => ?_)
      refine gq Tryz.func32 (impl_within.calls _ _ _ _ _ A4.out) ?_
      rintro e w' ⟨rfl, ⟨nd, rfl⟩⟩
      refine ⟨_, rfl, ?_⟩
      refine hK.out _ _ (cx BK429) (fun hHeld => ?_)
      clear hK K
      refine nm ?_
      refine pu 6 11 (bl 30 127) ?_
      refine pu 7 12 (bl 30 255) ?_
      refine pu 8 13 (bl 30 511) ?_
      refine pu 9 14 (bl 30 1023) ?_
      refine pu 12 17 (bl 30 5119) ?_
      refine pu 15 20 (bl 30 37887) ?_
      refine tk 10 15 (bl 30 38911) ?_
      refine pu 11 16 (bl 30 40959) ?_
      refine tk 13 18 (bl 30 49151) ?_
      refine pu 14 19 (bl 30 65535) ?_
      refine pu 16 21 (bl 30 131071) ?_
      refine pu 17 22 (bl 30 262143) ?_
      refine pu 18 23 (bl 30 524287) ?_
      refine pu 19 24 (bl 30 1048575) ?_
      refine pu 21 26 (bl 30 3145727) ?_
      refine pu 22 27 (bl 30 7340031) ?_
      refine tk 20 25 (bl 30 8388607) ?_
      refine tk 23 28 (bl 30 16777215) ?_
      refine pu 24 29 (bl 30 33554431) ?_
      refine pu 25 30 (bl 30 67108863) ?_
      refine pu 26 31 (bl 30 134217727) ?_
      refine pu 27 32 (bl 30 268435455) ?_
      refine pu 28 33 (bl 30 536870911) ?_
      refine pu 29 4 (bl 30 1073741823) ?_
      refine dn ?_ _
      try go_wp2
      go_ret
      exact ⟨by first | exact rt1 | (simp only [← hji7, ← hji9, ← hji13]; exact rt1) | exact rt, bw⟩
     ·rw [if_neg c12] at H
      exact absurd H (by simp)
    ·obtain rfl := Option.some.inj H
     go_enter Tryz.func94, Tryz.ntmps94
     try go_wp2_with (first | ((with_reducible refine gd 2 ?_); refine bx 2 61 #[.int .i64 a0_0, .int .i64 a0_1, .int .u32 a0_2, .int .i64 a0_3] ?_; clear HB; intro gb429 w16 hg BK429 hb GE429 HB; clear hb hg))
     replace BK429 := bd BK429
     replace HB := hd HB
     refine st 30 (fun w' => CA w' gb429 0 [.int .i64 a0_0, .int .i64 a0_1, .int .u32 a0_2, .int .i64 a0_3]) [] (cx BK429) impl_startsBlock.tab1 impl_startsBlock.bits1 ?_; intro hHeld HT_ HW_
     generalize w16.drew = w17 at BK429 HB hHeld ⊢
     refine pu 0 5 (bl 30 1) ?_
     refine tk 1 6 (bl 30 3) ?_
     refine pu 2 7 (bl 30 7) ?_
     refine pu 3 8 (bl 30 15) ?_
     refine pu 4 9 (bl 30 31) ?_
     refine on_ 5 (some 10) (bl 30 63) (fun K hK => ?_)
     refine gq Tryz.func32 (impl_within.calls _ _ _ _ _ A4.out) ?_
     rintro e w' ⟨rfl, ⟨nd, rfl⟩⟩
     refine ⟨_, rfl, ?_⟩
     refine hK.out _ _ (cx BK429) (fun hHeld => ?_)
     clear hK K
     refine nm ?_
     refine pu 6 11 (bl 30 127) ?_
     refine pu 7 12 (bl 30 255) ?_
     refine pu 8 13 (bl 30 511) ?_
     refine pu 9 14 (bl 30 1023) ?_
     refine pu 12 17 (bl 30 5119) ?_
     refine pu 15 20 (bl 30 37887) ?_
     refine tk 10 15 (bl 30 38911) ?_
     refine pu 11 16 (bl 30 40959) ?_
     refine tk 13 18 (bl 30 49151) ?_
     refine pu 14 19 (bl 30 65535) ?_
     refine pu 16 21 (bl 30 131071) ?_
     refine pu 17 22 (bl 30 262143) ?_
     refine pu 18 23 (bl 30 524287) ?_
     refine pf 19 24 (bl 30 1048575) ?_
     refine pf 20 25 (bl 30 2097151) ?_
     refine pf 21 26 (bl 30 4194303) ?_
     refine pf 22 27 (bl 30 8388607) ?_
     refine pf 23 28 (bl 30 16777215) ?_
     refine pf 24 29 (bl 30 33554431) ?_
     refine pf 25 30 (bl 30 67108863) ?_
     refine pf 26 31 (bl 30 134217727) ?_
     refine pf 27 32 (bl 30 268435455) ?_
     refine pu 28 33 (bl 30 536870911) ?_
     refine pu 29 4 (bl 30 1073741823) ?_
     refine dn ?_ _
     try go_wp2
     go_ret
     exact ⟨by first | exact rt1 | (simp only [← hji7, ← hji9]; exact rt1) | exact rt, bw⟩
   ·rw [if_neg c6] at H
    exact absurd H (by simp)
  ·obtain rfl := Option.some.inj H
   go_enter Tryz.func94, Tryz.ntmps94
   try go_wp2_with (first | ((with_reducible refine gd 2 ?_); refine bx 2 61 #[.int .i64 a0_0, .int .i64 a0_1, .int .u32 a0_2, .int .i64 a0_3] ?_; clear HB; intro gb429 w18 hg BK429 hb GE429 HB; clear hb hg))
   replace BK429 := bd BK429
   replace HB := hd HB
   refine st 30 (fun w' => CA w' gb429 0 [.int .i64 a0_0, .int .i64 a0_1, .int .u32 a0_2, .int .i64 a0_3]) [] (cx BK429) impl_startsBlock.tab1 impl_startsBlock.bits1 ?_; intro hHeld HT_ HW_
   generalize w18.drew = w19 at BK429 HB hHeld ⊢
   refine pu 0 5 (bl 30 1) ?_
   refine tk 1 6 (bl 30 3) ?_
   refine pu 2 7 (bl 30 7) ?_
   refine pu 3 8 (bl 30 15) ?_
   refine pu 4 9 (bl 30 31) ?_
   refine on_ 5 (some 10) (bl 30 63) (fun K hK => ?_)
   refine gq Tryz.func32 (impl_within.calls _ _ _ _ _ A4.out) ?_
   rintro e w' ⟨rfl, ⟨nd, rfl⟩⟩
   refine ⟨_, rfl, ?_⟩
   refine hK.out _ _ (cx BK429) (fun hHeld => ?_)
   clear hK K
   refine nm ?_
   refine pu 6 11 (bl 30 127) ?_
   refine pu 7 12 (bl 30 255) ?_
   refine pf 8 13 (bl 30 511) ?_
   refine pf 9 14 (bl 30 1023) ?_
   refine pf 10 15 (bl 30 2047) ?_
   refine pf 11 16 (bl 30 4095) ?_
   refine pf 12 17 (bl 30 8191) ?_
   refine pf 13 18 (bl 30 16383) ?_
   refine pf 14 19 (bl 30 32767) ?_
   refine pf 15 20 (bl 30 65535) ?_
   refine pf 16 21 (bl 30 131071) ?_
   refine pu 17 22 (bl 30 262143) ?_
   refine pu 18 23 (bl 30 524287) ?_
   refine pf 19 24 (bl 30 1048575) ?_
   refine pf 20 25 (bl 30 2097151) ?_
   refine pf 21 26 (bl 30 4194303) ?_
   refine pf 22 27 (bl 30 8388607) ?_
   refine pf 23 28 (bl 30 16777215) ?_
   refine pf 24 29 (bl 30 33554431) ?_
   refine pf 25 30 (bl 30 67108863) ?_
   refine pf 26 31 (bl 30 134217727) ?_
   refine pf 27 32 (bl 30 268435455) ?_
   refine pu 28 33 (bl 30 536870911) ?_
   refine pu 29 4 (bl 30 1073741823) ?_
   refine dn ?_ _
   try go_wp2
   go_ret
   exact ⟨rt, bw⟩
 ·obtain rfl := Option.some.inj H
  go_enter Tryz.func94, Tryz.ntmps94
  try go_wp2_with (first | ((with_reducible refine gd 2 ?_); refine bx 2 61 #[.int .i64 a0_0, .int .i64 a0_1, .int .u32 a0_2, .int .i64 a0_3] ?_; clear HB; intro gb429 w20 hg BK429 hb GE429 HB; clear hb hg))
  replace BK429 := bd BK429
  replace HB := hd HB
  refine st 30 (fun w' => CA w' gb429 0 [.int .i64 a0_0, .int .i64 a0_1, .int .u32 a0_2, .int .i64 a0_3]) [] (cx BK429) impl_startsBlock.tab1 impl_startsBlock.bits1 ?_; intro hHeld HT_ HW_
  generalize w20.drew = w21 at BK429 HB hHeld ⊢
  refine pu 0 5 (bl 30 1) ?_
  refine tk 1 6 (bl 30 3) ?_
  refine pu 2 7 (bl 30 7) ?_
  refine pu 3 8 (bl 30 15) ?_
  refine pf 4 9 (bl 30 31) ?_
  refine pf 5 10 (bl 30 63) ?_
  refine pu 6 11 (bl 30 127) ?_
  refine pu 7 12 (bl 30 255) ?_
  refine pf 8 13 (bl 30 511) ?_
  refine pf 9 14 (bl 30 1023) ?_
  refine pf 10 15 (bl 30 2047) ?_
  refine pf 11 16 (bl 30 4095) ?_
  refine pf 12 17 (bl 30 8191) ?_
  refine pf 13 18 (bl 30 16383) ?_
  refine pf 14 19 (bl 30 32767) ?_
  refine pf 15 20 (bl 30 65535) ?_
  refine pf 16 21 (bl 30 131071) ?_
  refine pu 17 22 (bl 30 262143) ?_
  refine pu 18 23 (bl 30 524287) ?_
  refine pf 19 24 (bl 30 1048575) ?_
  refine pf 20 25 (bl 30 2097151) ?_
  refine pf 21 26 (bl 30 4194303) ?_
  refine pf 22 27 (bl 30 8388607) ?_
  refine pf 23 28 (bl 30 16777215) ?_
  refine pf 24 29 (bl 30 33554431) ?_
  refine pf 25 30 (bl 30 67108863) ?_
  refine pf 26 31 (bl 30 134217727) ?_
  refine pf 27 32 (bl 30 268435455) ?_
  refine pu 28 33 (bl 30 536870911) ?_
  refine pu 29 4 (bl 30 1073741823) ?_
  refine dn ?_ _
  try go_wp2
  go_ret
  exact ⟨rt, bw⟩

end Go.Proofs.YtfhcnnkeokjfpaaGreatDoor.PO1
namespace Go.Proofs.YtfhcnnkeokjfpaaGreatDoor.PO1
open Go.RowKit Go.Proofs.YtfhcnnkeokjfpaaGreatDoorW.PrintWords Go.Proofs.YtfhcnnkeokjfpaaGreatDoorW.PrintLast Go.Proofs.YtfhcnnkeokjfpaaGreatDoorW.PrintMore Go.Proofs.YtfhcnnkeokjfpaaGreatDoor.T
attribute [local go_sem] max2_int min2_int max_two min_two max_three min_three max_four min_four   -- for this text's walks alone
set_option linter.unusedVariables false
set_option linter.unusedSimpArgs false

/-! ### impl_mayGive: function 81 -/
def impl_mayGive.f (k : Nat) (a0 : Int) (a1 : Int) : Option (Bool) := (impl_CtlRead.f k a0).bind fun bt431 => (if bt431.2.2.2.2 = true then ((impl_startsBlock.f bt431.1 bt431.2.1 bt431.2.2.1 bt431.2.2.2.1 a1).bind fun t437 => (if t437 = true then (some true) else (if bt431.1 = 2 then (some (a1 == 0)) else (some false)))) else (some false))
theorem impl_mayGive.mono : ∀ a0 a1 k, LeO (impl_mayGive.f k a0 a1) (impl_mayGive.f (k + 1) a0 a1) := by
 intro a0 a1 k
 unfold impl_mayGive.f
 repeat' first
  | (with_reducible first | exact impl_CtlRead.mono .. | exact LeO.refl _ | exact LeO.none _ | refine LeO.ite ?_ ?_ | refine LeO.bind ?_ (fun _ => ?_))
  | exact LeO.none _ | refine LeO.ite ?_ ?_ | refine LeO.bind ?_ (fun _ => ?_)
set_option maxHeartbeats 8000000 in
set_option maxRecDepth 100000 in
theorem impl_mayGive.calls (k : Nat) (a0 : Int) (a1 : Int) (r : Bool) (w : World) (h : impl_mayGive.f k a0 a1 = some r) :
  Calls Tryz.prog 81 #[.int .u32 a0, .int .i64 a1] w fun e w' => e = .returned (.bool r) ∧ Below w.heap.size w w' := by
 have hu61 := Tryz.underlying61
 have HB := Aside0.mk (Below.refl w.heap.size w)
 unfold impl_mayGive.f at h
 have H := h
 clear h
 replace H := bn H
 obtain ⟨⟨t431, t432, t433, t434, t435⟩, A3, H⟩ := H
 try dsimp only at H
 replace H := ib H
 rcases H with ⟨rfl, H⟩ | ⟨rfl, H⟩
 ·replace H := bn H
  obtain ⟨t437, A5, H⟩ := H
  try dsimp only at H
  replace H := ib H
  rcases H with ⟨rfl, H⟩ | ⟨rfl, H⟩
  ·obtain rfl := Option.some.inj H
   go_enter Tryz.func81, Tryz.ntmps81
   go_wp2_with (first | ((with_reducible refine gf 39 ?_); refine gc Tryz.func39 (some 9) (impl_CtlRead.calls _ _ _ _ _ _ _ _ A3.out) ?_; rintro e w7 ⟨rfl, hb⟩; refine ⟨_, rfl, ?_⟩; replace HB := hs hb; try clear hb) | ((with_reducible refine gd 5 ?_); refine bx 5 61 #[.int .i64 0, .int .i64 0, .int .u32 0, .int .i64 0] ?_; clear HB; intro gb436 w8 hg BK436 hb GE436 HB; clear hb hg; obtain ⟨z9_0, z9_1, z9_2, z9_3⟩ := ca4 BK436; obtain ⟨f9_0, f9_1, f9_2, f9_3⟩ := fa4 BK436) | (go_at_call 94; (with_reducible refine (impl_startsBlock.calls _ _ _ _ _ _ _ A5.out).mono ?_); rintro e w10 ⟨rfl, hb⟩; replace BK436 := bq BK436 #[.int .i64 t431, .int .i64 t432, .int .u32 t433, .int .i64 t434] hb; replace HB := hs hb; try clear hb))
   go_ret
   exact ⟨rt, bw⟩
  ·replace H := ieq H
   rcases H with ⟨c11b0, c11b1, H⟩ | ⟨c11, c11b0, c11b1, H⟩
   ·obtain rfl := Option.some.inj H
    go_enter Tryz.func81, Tryz.ntmps81
    go_wp2_with (first | ((with_reducible refine gf 39 ?_); refine gc Tryz.func39 (some 9) (impl_CtlRead.calls _ _ _ _ _ _ _ _ A3.out) ?_; rintro e w12 ⟨rfl, hb⟩; refine ⟨_, rfl, ?_⟩; replace HB := hs hb; try clear hb) | ((with_reducible refine gd 5 ?_); refine bx 5 61 #[.int .i64 0, .int .i64 0, .int .u32 0, .int .i64 0] ?_; clear HB; intro gb436 w13 hg BK436 hb GE436 HB; clear hb hg; obtain ⟨z14_0, z14_1, z14_2, z14_3⟩ := ca4 BK436; obtain ⟨f14_0, f14_1, f14_2, f14_3⟩ := fa4 BK436) | (go_at_call 94; (with_reducible refine (impl_startsBlock.calls _ _ _ _ _ _ _ A5.out).mono ?_); rintro e w15 ⟨rfl, hb⟩; replace BK436 := bq BK436 #[.int .i64 t431, .int .i64 t432, .int .u32 t433, .int .i64 t434] hb; replace HB := hs hb; try clear hb; obtain ⟨z16_0, z16_1, z16_2, z16_3⟩ := ca4 BK436; obtain ⟨f16_0, f16_1, f16_2, f16_3⟩ := fa4 BK436))
    go_ret
    exact ⟨rt, bw⟩
   ·obtain rfl := Option.some.inj H
    go_enter Tryz.func81, Tryz.ntmps81
    go_wp2_with (first | ((with_reducible refine gf 39 ?_); refine gc Tryz.func39 (some 9) (impl_CtlRead.calls _ _ _ _ _ _ _ _ A3.out) ?_; rintro e w17 ⟨rfl, hb⟩; refine ⟨_, rfl, ?_⟩; replace HB := hs hb; try clear hb) | ((with_reducible refine gd 5 ?_); refine bx 5 61 #[.int .i64 0, .int .i64 0, .int .u32 0, .int .i64 0] ?_; clear HB; intro gb436 w18 hg BK436 hb GE436 HB; clear hb hg; obtain ⟨z19_0, z19_1, z19_2, z19_3⟩ := ca4 BK436; obtain ⟨f19_0, f19_1, f19_2, f19_3⟩ := fa4 BK436) | (go_at_call 94; (with_reducible refine (impl_startsBlock.calls _ _ _ _ _ _ _ A5.out).mono ?_); rintro e w20 ⟨rfl, hb⟩; replace BK436 := bq BK436 #[.int .i64 t431, .int .i64 t432, .int .u32 t433, .int .i64 t434] hb; replace HB := hs hb; try clear hb; obtain ⟨z21_0, z21_1, z21_2, z21_3⟩ := ca4 BK436; obtain ⟨f21_0, f21_1, f21_2, f21_3⟩ := fa4 BK436))
    go_ret
    exact ⟨rt, bw⟩
 ·obtain rfl := Option.some.inj H
  go_enter Tryz.func81, Tryz.ntmps81
  go_wp2_with (first | ((with_reducible refine gf 39 ?_); refine gc Tryz.func39 (some 9) (impl_CtlRead.calls _ _ _ _ _ _ _ _ A3.out) ?_; rintro e w22 ⟨rfl, hb⟩; refine ⟨_, rfl, ?_⟩; replace HB := hs hb; try clear hb) | ((with_reducible refine gd 5 ?_); refine bx 5 61 #[.int .i64 0, .int .i64 0, .int .u32 0, .int .i64 0] ?_; clear HB; intro gb436 w23 hg BK436 hb GE436 HB; clear hb hg; obtain ⟨z24_0, z24_1, z24_2, z24_3⟩ := ca4 BK436; obtain ⟨f24_0, f24_1, f24_2, f24_3⟩ := fa4 BK436))
  go_ret
  exact ⟨rt, bw⟩

/-! ### bits_OnesCount32: function 103 -/
def bits_OnesCount32.f (a0 : Int) : Option (Int) := if 0 ≤ (a0 / 16777216) then (if (a0 / 16777216) < 256 then (if 0 ≤ (Go.bits .and .u32 (a0 / 65536) 255) then (if (Go.bits .and .u32 (a0 / 65536) 255) < 256 then (if 0 ≤ (Go.bits .and .u32 (a0 / 256) 255) then (if (Go.bits .and .u32 (a0 / 256) 255) < 256 then (if 0 ≤ (Go.bits .and .u32 a0 255) then (if (Go.bits .and .u32 a0 255) < 256 then (some (((((((bt (⟨#[0, 1, 1, 2, 1, 2, 2, 3, 1, 2, 2, 3, 2, 3, 3, 4, 1, 2, 2, 3, 2, 3, 3, 4, 2, 3, 3, 4, 3, 4, 4, 5, 1, 2, 2, 3, 2, 3, 3, 4, 2, 3, 3, 4, 3, 4, 4, 5, 2, 3, 3, 4, 3, 4, 4, 5, 3, 4, 4, 5, 4, 5, 5, 6, 1, 2, 2, 3, 2, 3, 3, 4, 2, 3, 3, 4, 3, 4, 4, 5, 2, 3, 3, 4, 3, 4, 4, 5, 3, 4, 4, 5, 4, 5, 5, 6, 2, 3, 3, 4, 3, 4, 4, 5, 3, 4, 4, 5, 4, 5, 5, 6, 3, 4, 4, 5, 4, 5, 5, 6, 4, 5, 5, 6, 5, 6, 6, 7, 1, 2, 2, 3, 2, 3, 3, 4, 2, 3, 3, 4, 3, 4, 4, 5, 2, 3, 3, 4, 3, 4, 4, 5, 3, 4, 4, 5, 4, 5, 5, 6, 2, 3, 3, 4, 3, 4, 4, 5, 3, 4, 4, 5, 4, 5, 5, 6, 3, 4, 4, 5, 4, 5, 5, 6, 4, 5, 5, 6, 5, 6, 6, 7, 2, 3, 3, 4, 3, 4, 4, 5, 3, 4, 4, 5, 4, 5, 5, 6, 3, 4, 4, 5, 4, 5, 5, 6, 4, 5, 5, 6, 5, 6, 6, 7, 3, 4, 4, 5, 4, 5, 5, 6, 4, 5, 5, 6, 5, 6, 6, 7, 4, 5, 5, 6, 5, 6, 6, 7, 5, 6, 6, 7, 6, 7, 7, 8]⟩ : ByteArray) (a0 / 16777216)) + (bt (⟨#[0, 1, 1, 2, 1, 2, 2, 3, 1, 2, 2, 3, 2, 3, 3, 4, 1, 2, 2, 3, 2, 3, 3, 4, 2, 3, 3, 4, 3, 4, 4, 5, 1, 2, 2, 3, 2, 3, 3, 4, 2, 3, 3, 4, 3, 4, 4, 5, 2, 3, 3, 4, 3, 4, 4, 5, 3, 4, 4, 5, 4, 5, 5, 6, 1, 2, 2, 3, 2, 3, 3, 4, 2, 3, 3, 4, 3, 4, 4, 5, 2, 3, 3, 4, 3, 4, 4, 5, 3, 4, 4, 5, 4, 5, 5, 6, 2, 3, 3, 4, 3, 4, 4, 5, 3, 4, 4, 5, 4, 5, 5, 6, 3, 4, 4, 5, 4, 5, 5, 6, 4, 5, 5, 6, 5, 6, 6, 7, 1, 2, 2, 3, 2, 3, 3, 4, 2, 3, 3, 4, 3, 4, 4, 5, 2, 3, 3, 4, 3, 4, 4, 5, 3, 4, 4, 5, 4, 5, 5, 6, 2, 3, 3, 4, 3, 4, 4, 5, 3, 4, 4, 5, 4, 5, 5, 6, 3, 4, 4, 5, 4, 5, 5, 6, 4, 5, 5, 6, 5, 6, 6, 7, 2, 3, 3, 4, 3, 4, 4, 5, 3, 4, 4, 5, 4, 5, 5, 6, 3, 4, 4, 5, 4, 5, 5, 6, 4, 5, 5, 6, 5, 6, 6, 7, 3, 4, 4, 5, 4, 5, 5, 6, 4, 5, 5, 6, 5, 6, 6, 7, 4, 5, 5, 6, 5, 6, 6, 7, 5, 6, 6, 7, 6, 7, 7, 8]⟩ : ByteArray) (Go.bits .and .u32 (a0 / 65536) 255))) % 256) + (bt (⟨#[0, 1, 1, 2, 1, 2, 2, 3, 1, 2, 2, 3, 2, 3, 3, 4, 1, 2, 2, 3, 2, 3, 3, 4, 2, 3, 3, 4, 3, 4, 4, 5, 1, 2, 2, 3, 2, 3, 3, 4, 2, 3, 3, 4, 3, 4, 4, 5, 2, 3, 3, 4, 3, 4, 4, 5, 3, 4, 4, 5, 4, 5, 5, 6, 1, 2, 2, 3, 2, 3, 3, 4, 2, 3, 3, 4, 3, 4, 4, 5, 2, 3, 3, 4, 3, 4, 4, 5, 3, 4, 4, 5, 4, 5, 5, 6, 2, 3, 3, 4, 3, 4, 4, 5, 3, 4, 4, 5, 4, 5, 5, 6, 3, 4, 4, 5, 4, 5, 5, 6, 4, 5, 5, 6, 5, 6, 6, 7, 1, 2, 2, 3, 2, 3, 3, 4, 2, 3, 3, 4, 3, 4, 4, 5, 2, 3, 3, 4, 3, 4, 4, 5, 3, 4, 4, 5, 4, 5, 5, 6, 2, 3, 3, 4, 3, 4, 4, 5, 3, 4, 4, 5, 4, 5, 5, 6, 3, 4, 4, 5, 4, 5, 5, 6, 4, 5, 5, 6, 5, 6, 6, 7, 2, 3, 3, 4, 3, 4, 4, 5, 3, 4, 4, 5, 4, 5, 5, 6, 3, 4, 4, 5, 4, 5, 5, 6, 4, 5, 5, 6, 5, 6, 6, 7, 3, 4, 4, 5, 4, 5, 5, 6, 4, 5, 5, 6, 5, 6, 6, 7, 4, 5, 5, 6, 5, 6, 6, 7, 5, 6, 6, 7, 6, 7, 7, 8]⟩ : ByteArray) (Go.bits .and .u32 (a0 / 256) 255))) % 256) + (bt (⟨#[0, 1, 1, 2, 1, 2, 2, 3, 1, 2, 2, 3, 2, 3, 3, 4, 1, 2, 2, 3, 2, 3, 3, 4, 2, 3, 3, 4, 3, 4, 4, 5, 1, 2, 2, 3, 2, 3, 3, 4, 2, 3, 3, 4, 3, 4, 4, 5, 2, 3, 3, 4, 3, 4, 4, 5, 3, 4, 4, 5, 4, 5, 5, 6, 1, 2, 2, 3, 2, 3, 3, 4, 2, 3, 3, 4, 3, 4, 4, 5, 2, 3, 3, 4, 3, 4, 4, 5, 3, 4, 4, 5, 4, 5, 5, 6, 2, 3, 3, 4, 3, 4, 4, 5, 3, 4, 4, 5, 4, 5, 5, 6, 3, 4, 4, 5, 4, 5, 5, 6, 4, 5, 5, 6, 5, 6, 6, 7, 1, 2, 2, 3, 2, 3, 3, 4, 2, 3, 3, 4, 3, 4, 4, 5, 2, 3, 3, 4, 3, 4, 4, 5, 3, 4, 4, 5, 4, 5, 5, 6, 2, 3, 3, 4, 3, 4, 4, 5, 3, 4, 4, 5, 4, 5, 5, 6, 3, 4, 4, 5, 4, 5, 5, 6, 4, 5, 5, 6, 5, 6, 6, 7, 2, 3, 3, 4, 3, 4, 4, 5, 3, 4, 4, 5, 4, 5, 5, 6, 3, 4, 4, 5, 4, 5, 5, 6, 4, 5, 5, 6, 5, 6, 6, 7, 3, 4, 4, 5, 4, 5, 5, 6, 4, 5, 5, 6, 5, 6, 6, 7, 4, 5, 5, 6, 5, 6, 6, 7, 5, 6, 6, 7, 6, 7, 7, 8]⟩ : ByteArray) (Go.bits .and .u32 a0 255))) % 256)) else (none)) else (none)) else (none)) else (none)) else (none)) else (none)) else (none)) else (none)
set_option maxHeartbeats 8000000 in
set_option maxRecDepth 100000 in
theorem bits_OnesCount32.calls (a0 : Int) (r : Int) (w : World) (h : bits_OnesCount32.f a0 = some r) :
  Calls Tryz.prog 103 #[.int .u32 a0] w fun e w' => e = .returned (.int .i64 r) ∧ Drawn0 w w' := by
 unfold bits_OnesCount32.f at h
 have H := h
 clear h
 obtain ⟨ji2, hji2⟩ : ∃ j_ : Int, (a0 / 16777216) = j_ := ⟨_, rfl⟩
 first | rw [hji2] at H | simp only [hji2] at H
 by_cases c3 : 0 ≤ (ji2)
 ·rw [if_pos c3] at H
  have c3b0 : decide (0 ≤ (ji2)) = true := decide_eq_true c3
  clear c3
  by_cases c4 : (ji2) < 256
  ·rw [if_pos c4] at H
   have c4b0 : decide ((ji2) < 256) = true := decide_eq_true c4
   clear c4
   obtain ⟨ji6, hji6⟩ : ∃ j_ : Int, (Go.bits .and .u32 (a0 / 65536) 255) = j_ := ⟨_, rfl⟩
   first | rw [hji6] at H | simp only [hji6] at H
   by_cases c7 : 0 ≤ (ji6)
   ·rw [if_pos c7] at H
    have c7b0 : decide (0 ≤ (ji6)) = true := decide_eq_true c7
    clear c7
    by_cases c8 : (ji6) < 256
    ·rw [if_pos c8] at H
     have c8b0 : decide ((ji6) < 256) = true := decide_eq_true c8
     clear c8
     obtain ⟨ji10, hji10⟩ : ∃ j_ : Int, (Go.bits .and .u32 (a0 / 256) 255) = j_ := ⟨_, rfl⟩
     first | rw [hji10] at H | simp only [hji10] at H
     by_cases c11 : 0 ≤ (ji10)
     ·rw [if_pos c11] at H
      have c11b0 : decide (0 ≤ (ji10)) = true := decide_eq_true c11
      clear c11
      by_cases c12 : (ji10) < 256
      ·rw [if_pos c12] at H
       have c12b0 : decide ((ji10) < 256) = true := decide_eq_true c12
       clear c12
       by_cases c14 : 0 ≤ (Go.bits .and .u32 a0 255)
       ·rw [if_pos c14] at H
        have c14b0 : decide (0 ≤ (Go.bits .and .u32 a0 255)) = true := decide_eq_true c14
        clear c14
        by_cases c15 : (Go.bits .and .u32 a0 255) < 256
        ·rw [if_pos c15] at H
         have c15b0 : decide ((Go.bits .and .u32 a0 255) < 256) = true := decide_eq_true c15
         clear c15
         obtain rfl := Option.some.inj H
         have p5 : 0 ≤ ((ji2) : Int) := of_decide_eq_true as_
         have q5 : (ji2) < (256 : Int) := of_decide_eq_true as_
         have hx5 := bt_at (⟨#[0, 1, 1, 2, 1, 2, 2, 3, 1, 2, 2, 3, 2, 3, 3, 4, 1, 2, 2, 3, 2, 3, 3, 4, 2, 3, 3, 4, 3, 4, 4, 5, 1, 2, 2, 3, 2, 3, 3, 4, 2, 3, 3, 4, 3, 4, 4, 5, 2, 3, 3, 4, 3, 4, 4, 5, 3, 4, 4, 5, 4, 5, 5, 6, 1, 2, 2, 3, 2, 3, 3, 4, 2, 3, 3, 4, 3, 4, 4, 5, 2, 3, 3, 4, 3, 4, 4, 5, 3, 4, 4, 5, 4, 5, 5, 6, 2, 3, 3, 4, 3, 4, 4, 5, 3, 4, 4, 5, 4, 5, 5, 6, 3, 4, 4, 5, 4, 5, 5, 6, 4, 5, 5, 6, 5, 6, 6, 7, 1, 2, 2, 3, 2, 3, 3, 4, 2, 3, 3, 4, 3, 4, 4, 5, 2, 3, 3, 4, 3, 4, 4, 5, 3, 4, 4, 5, 4, 5, 5, 6, 2, 3, 3, 4, 3, 4, 4, 5, 3, 4, 4, 5, 4, 5, 5, 6, 3, 4, 4, 5, 4, 5, 5, 6, 4, 5, 5, 6, 5, 6, 6, 7, 2, 3, 3, 4, 3, 4, 4, 5, 3, 4, 4, 5, 4, 5, 5, 6, 3, 4, 4, 5, 4, 5, 5, 6, 4, 5, 5, 6, 5, 6, 6, 7, 3, 4, 4, 5, 4, 5, 5, 6, 4, 5, 5, 6, 5, 6, 6, 7, 4, 5, 5, 6, 5, 6, 6, 7, 5, 6, 6, 7, 6, 7, 7, 8]⟩ : ByteArray) (ji2)
         replace p5 := eq_true p5
         replace q5 := eq_true q5
         have p9 : 0 ≤ ((ji6) : Int) := of_decide_eq_true as_
         have q9 : (ji6) < (256 : Int) := of_decide_eq_true as_
         have hx9 := bt_at (⟨#[0, 1, 1, 2, 1, 2, 2, 3, 1, 2, 2, 3, 2, 3, 3, 4, 1, 2, 2, 3, 2, 3, 3, 4, 2, 3, 3, 4, 3, 4, 4, 5, 1, 2, 2, 3, 2, 3, 3, 4, 2, 3, 3, 4, 3, 4, 4, 5, 2, 3, 3, 4, 3, 4, 4, 5, 3, 4, 4, 5, 4, 5, 5, 6, 1, 2, 2, 3, 2, 3, 3, 4, 2, 3, 3, 4, 3, 4, 4, 5, 2, 3, 3, 4, 3, 4, 4, 5, 3, 4, 4, 5, 4, 5, 5, 6, 2, 3, 3, 4, 3, 4, 4, 5, 3, 4, 4, 5, 4, 5, 5, 6, 3, 4, 4, 5, 4, 5, 5, 6, 4, 5, 5, 6, 5, 6, 6, 7, 1, 2, 2, 3, 2, 3, 3, 4, 2, 3, 3, 4, 3, 4, 4, 5, 2, 3, 3, 4, 3, 4, 4, 5, 3, 4, 4, 5, 4, 5, 5, 6, 2, 3, 3, 4, 3, 4, 4, 5, 3, 4, 4, 5, 4, 5, 5, 6, 3, 4, 4, 5, 4, 5, 5, 6, 4, 5, 5, 6, 5, 6, 6, 7, 2, 3, 3, 4, 3, 4, 4, 5, 3, 4, 4, 5, 4, 5, 5, 6, 3, 4, 4, 5, 4, 5, 5, 6, 4, 5, 5, 6, 5, 6, 6, 7, 3, 4, 4, 5, 4, 5, 5, 6, 4, 5, 5, 6, 5, 6, 6, 7, 4, 5, 5, 6, 5, 6, 6, 7, 5, 6, 6, 7, 6, 7, 7, 8]⟩ : ByteArray) (ji6)
         replace p9 := eq_true p9
         replace q9 := eq_true q9
         have p13 : 0 ≤ ((ji10) : Int) := of_decide_eq_true as_
         have q13 : (ji10) < (256 : Int) := of_decide_eq_true as_
         have hx13 := bt_at (⟨#[0, 1, 1, 2, 1, 2, 2, 3, 1, 2, 2, 3, 2, 3, 3, 4, 1, 2, 2, 3, 2, 3, 3, 4, 2, 3, 3, 4, 3, 4, 4, 5, 1, 2, 2, 3, 2, 3, 3, 4, 2, 3, 3, 4, 3, 4, 4, 5, 2, 3, 3, 4, 3, 4, 4, 5, 3, 4, 4, 5, 4, 5, 5, 6, 1, 2, 2, 3, 2, 3, 3, 4, 2, 3, 3, 4, 3, 4, 4, 5, 2, 3, 3, 4, 3, 4, 4, 5, 3, 4, 4, 5, 4, 5, 5, 6, 2, 3, 3, 4, 3, 4, 4, 5, 3, 4, 4, 5, 4, 5, 5, 6, 3, 4, 4, 5, 4, 5, 5, 6, 4, 5, 5, 6, 5, 6, 6, 7, 1, 2, 2, 3, 2, 3, 3, 4, 2, 3, 3, 4, 3, 4, 4, 5, 2, 3, 3, 4, 3, 4, 4, 5, 3, 4, 4, 5, 4, 5, 5, 6, 2, 3, 3, 4, 3, 4, 4, 5, 3, 4, 4, 5, 4, 5, 5, 6, 3, 4, 4, 5, 4, 5, 5, 6, 4, 5, 5, 6, 5, 6, 6, 7, 2, 3, 3, 4, 3, 4, 4, 5, 3, 4, 4, 5, 4, 5, 5, 6, 3, 4, 4, 5, 4, 5, 5, 6, 4, 5, 5, 6, 5, 6, 6, 7, 3, 4, 4, 5, 4, 5, 5, 6, 4, 5, 5, 6, 5, 6, 6, 7, 4, 5, 5, 6, 5, 6, 6, 7, 5, 6, 6, 7, 6, 7, 7, 8]⟩ : ByteArray) (ji10)
         replace p13 := eq_true p13
         replace q13 := eq_true q13
         have p16 : 0 ≤ ((Go.bits .and .u32 a0 255) : Int) := of_decide_eq_true as_
         have q16 : (Go.bits .and .u32 a0 255) < (256 : Int) := of_decide_eq_true as_
         have hx16 := bt_at (⟨#[0, 1, 1, 2, 1, 2, 2, 3, 1, 2, 2, 3, 2, 3, 3, 4, 1, 2, 2, 3, 2, 3, 3, 4, 2, 3, 3, 4, 3, 4, 4, 5, 1, 2, 2, 3, 2, 3, 3, 4, 2, 3, 3, 4, 3, 4, 4, 5, 2, 3, 3, 4, 3, 4, 4, 5, 3, 4, 4, 5, 4, 5, 5, 6, 1, 2, 2, 3, 2, 3, 3, 4, 2, 3, 3, 4, 3, 4, 4, 5, 2, 3, 3, 4, 3, 4, 4, 5, 3, 4, 4, 5, 4, 5, 5, 6, 2, 3, 3, 4, 3, 4, 4, 5, 3, 4, 4, 5, 4, 5, 5, 6, 3, 4, 4, 5, 4, 5, 5, 6, 4, 5, 5, 6, 5, 6, 6, 7, 1, 2, 2, 3, 2, 3, 3, 4, 2, 3, 3, 4, 3, 4, 4, 5, 2, 3, 3, 4, 3, 4, 4, 5, 3, 4, 4, 5, 4, 5, 5, 6, 2, 3, 3, 4, 3, 4, 4, 5, 3, 4, 4, 5, 4, 5, 5, 6, 3, 4, 4, 5, 4, 5, 5, 6, 4, 5, 5, 6, 5, 6, 6, 7, 2, 3, 3, 4, 3, 4, 4, 5, 3, 4, 4, 5, 4, 5, 5, 6, 3, 4, 4, 5, 4, 5, 5, 6, 4, 5, 5, 6, 5, 6, 6, 7, 3, 4, 4, 5, 4, 5, 5, 6, 4, 5, 5, 6, 5, 6, 6, 7, 4, 5, 5, 6, 5, 6, 6, 7, 5, 6, 6, 7, 6, 7, 7, 8]⟩ : ByteArray) (Go.bits .and .u32 a0 255)
         replace p16 := eq_true p16
         replace q16 := eq_true q16
         go_enter Tryz.func103, Tryz.ntmps103
         go_wp2
         repeat (go_quiet (fail); try go_wp2)
         go_ret
         exact ⟨by first | rfl | (simp; done) | (simp only [← hji2, ← hji6, ← hji10] <;> (first | rfl | simp)) | (simp [*]; done), dr⟩
        ·rw [if_neg c15] at H
         exact absurd H (by simp)
       ·rw [if_neg c14] at H
        exact absurd H (by simp)
      ·rw [if_neg c12] at H
       exact absurd H (by simp)
     ·rw [if_neg c11] at H
      exact absurd H (by simp)
    ·rw [if_neg c8] at H
     exact absurd H (by simp)
   ·rw [if_neg c7] at H
    exact absurd H (by simp)
  ·rw [if_neg c4] at H
   exact absurd H (by simp)
 ·rw [if_neg c3] at H
  exact absurd H (by simp)

/-! ### impl_Ones: function 100 -/
def impl_Ones.f (a0 : Int) : Option (Int) := (bits_OnesCount32.f a0).bind fun t445 => (some t445)
set_option maxHeartbeats 8000000 in
set_option maxRecDepth 100000 in
theorem impl_Ones.calls (a0 : Int) (r : Int) (w : World) (h : impl_Ones.f a0 = some r) :
  Calls Tryz.prog 100 #[.int .u32 a0] w fun e w' => e = .returned (.int .i64 r) ∧ Drawn0 w w' := by
 unfold impl_Ones.f at h
 have H := h
 clear h
 replace H := bn H
 obtain ⟨t445, A2, H⟩ := H
 try dsimp only at H
 obtain rfl := Option.some.inj H
 go_enter Tryz.func100, Tryz.ntmps100
 go_wp2_with (first | ((with_reducible refine gf 103 ?_); refine gc Tryz.func103 (some 4) (bits_OnesCount32.calls _ _ _ A2.out) ?_; rintro e w' ⟨rfl, ⟨nd, rfl⟩⟩; refine ⟨_, rfl, ?_⟩))
 go_ret
 exact ⟨ev, dr⟩

/-! ### impl_roomOf: function 95 -/
def impl_roomOf.j0 : Nat → Int → Bool → Int → Int → Int → Int → Option (Int)
 | 0, _, _, _, _, _, _ => none
 | k + 1, x1, x11, x447000, x447001, x447002, x447003 => if x11 = true then ((impl_PerPage.f x1).bind fun t448 => ((impl_Ones.f x447002).bind fun t449 => (some (wrap64 (t448 - t449))))) else (some 0)
def impl_roomOf.f (k : Nat) (a0_0 : Int) (a0_1 : Int) (a0_2 : Int) (a0_3 : Int) (a1 : Int) : Option (Int) := if a0_0 = 0 then ((impl_PerPage.f a1).bind fun t447 => (some t447)) else (if a0_0 = 1 then (impl_roomOf.j0 k a1 (a0_1 == a1) a0_0 a0_1 a0_2 a0_3) else (impl_roomOf.j0 k a1 false a0_0 a0_1 a0_2 a0_3))
theorem impl_roomOf.mono_l : ∀ k, (∀ y0 y1 y2 y3 y4 y5, LeO (impl_roomOf.j0 k y0 y1 y2 y3 y4 y5) (impl_roomOf.j0 (k + 1) y0 y1 y2 y3 y4 y5))
 | 0 => fun _ _ _ _ _ _ r h => by simp [impl_roomOf.j0] at h
 | k + 1 => by
  have ih0 := impl_roomOf.mono_l k
  ·intro y0 y1 y2 y3 y4 y5
   unfold impl_roomOf.j0
   repeat' first
    | (with_reducible first | exact ih0 .. | exact LeO.refl _ | exact LeO.none _ | refine LeO.ite ?_ ?_ | refine LeO.bind ?_ (fun _ => ?_))
    | exact LeO.none _ | refine LeO.ite ?_ ?_ | refine LeO.bind ?_ (fun _ => ?_)
theorem impl_roomOf.mono : ∀ a0 a1 a2 a3 a4 k, LeO (impl_roomOf.f k a0 a1 a2 a3 a4) (impl_roomOf.f (k + 1) a0 a1 a2 a3 a4) := by
 intro a0 a1 a2 a3 a4 k
 have ih0 := impl_roomOf.mono_l k
 unfold impl_roomOf.f
 repeat' first
  | (with_reducible first | exact ih0 .. | exact LeO.refl _ | exact LeO.none _ | refine LeO.ite ?_ ?_ | refine LeO.bind ?_ (fun _ => ?_))
  | exact LeO.none _ | refine LeO.ite ?_ ?_ | refine LeO.bind ?_ (fun _ => ?_)
set_option maxHeartbeats 8000000 in
set_option maxRecDepth 100000 in
theorem impl_roomOf.calls (k : Nat) (a0_0 : Int) (a0_1 : Int) (a0_2 : Int) (a0_3 : Int) (a1 : Int) (r : Int) (w : World) (h : impl_roomOf.f k a0_0 a0_1 a0_2 a0_3 a1 = some r) :
  Calls Tryz.prog 95 #[.agg #[.int .i64 a0_0, .int .i64 a0_1, .int .u32 a0_2, .int .i64 a0_3], .int .i64 a1] w fun e w' => e = .returned (.int .i64 r) ∧ Below w.heap.size w w' := by
 have hu61 := Tryz.underlying61
 have HB := Aside0.mk (Below.refl w.heap.size w)
 unfold impl_roomOf.f at h
 have H := h
 clear h
 have HU3 := Aside0.mk H
 clear H
 go_enter Tryz.func95, Tryz.ntmps95
 go_upto_if 5 with (first | ((with_reducible refine gd 2 ?_); refine bx 2 61 #[.int .i64 a0_0, .int .i64 a0_1, .int .u32 a0_2, .int .i64 a0_3] ?_; clear HB; intro gb446 w4 hg BK446 hb GE446 HB; clear hb hg; obtain ⟨z5_0, z5_1, z5_2, z5_3⟩ := ca4 BK446; obtain ⟨f5_0, f5_1, f5_2, f5_3⟩ := fa4 BK446))
 repeat (go_quiet (first | ((with_reducible refine gd 2 ?_); refine bx 2 61 #[.int .i64 a0_0, .int .i64 a0_1, .int .u32 a0_2, .int .i64 a0_3] ?_; clear HB; intro gb446 w4 hg BK446 hb GE446 HB; clear hb hg; obtain ⟨z5_0, z5_1, z5_2, z5_3⟩ := ca4 BK446; obtain ⟨f5_0, f5_1, f5_2, f5_3⟩ := fa4 BK446)); go_upto_if 5 with (first | ((with_reducible refine gd 2 ?_); refine bx 2 61 #[.int .i64 a0_0, .int .i64 a0_1, .int .u32 a0_2, .int .i64 a0_3] ?_; clear HB; intro gb446 w4 hg BK446 hb GE446 HB; clear hb hg; obtain ⟨z5_0, z5_1, z5_2, z5_3⟩ := ca4 BK446; obtain ⟨f5_0, f5_1, f5_2, f5_3⟩ := fa4 BK446)))
 (try refine ap ?_)
 have H := HU3.out
 clear HU3
 replace H := ieq H
 rcases H with ⟨c6b0, c6b1, H⟩ | ⟨c6, c6b0, c6b1, H⟩
 ·(first | rw [c6b0] | (simp only [i64_w, i32_w]; rw [c6b0]) | (simp only [c6b2, Bool.not_true, Bool.not_false]) | (simp only [c6b1, Bool.not_true, Bool.not_false]) | skip)
  replace H := bn H
  obtain ⟨t447, A7, H⟩ := H
  try dsimp only at H
  obtain rfl := Option.some.inj H
  go_wp2_with (first | (go_at_call 88; (with_reducible refine (impl_PerPage.calls _ _ _ A7.out).mono ?_); rintro e w' ⟨rfl, ⟨nd, rfl⟩⟩; (try first | exact ⟨rfl, _, World.drewN_drewN _ _ _⟩ | exact ⟨rfl, _, Eq.trans (World.drewN_drewN _ _ _) (congrArg (World.drewN _) (Nat.add_assoc _ _ _))⟩)))
  repeat (go_quiet (first | (go_at_call 88; (with_reducible refine (impl_PerPage.calls _ _ _ A7.out).mono ?_); rintro e w' ⟨rfl, ⟨nd, rfl⟩⟩; (try first | exact ⟨rfl, _, World.drewN_drewN _ _ _⟩ | exact ⟨rfl, _, Eq.trans (World.drewN_drewN _ _ _) (congrArg (World.drewN _) (Nat.add_assoc _ _ _))⟩))); try go_wp2_with (first | (go_at_call 88; (with_reducible refine (impl_PerPage.calls _ _ _ A7.out).mono ?_); rintro e w' ⟨rfl, ⟨nd, rfl⟩⟩; (try first | exact ⟨rfl, _, World.drewN_drewN _ _ _⟩ | exact ⟨rfl, _, Eq.trans (World.drewN_drewN _ _ _) (congrArg (World.drewN _) (Nat.add_assoc _ _ _))⟩))))
  go_ret
  exact ⟨rt, bw⟩
 ·(first | rw [c6b0] | (simp only [i64_w, i32_w]; rw [c6b0]) | (simp only [c6b2, Bool.not_true, Bool.not_false]) | (simp only [c6b1, Bool.not_true, Bool.not_false]) | skip)
  have HC8 := Aside0.mk H
  clear H
  go_upto_region 3 with (fail)
  repeat (go_quiet (fail); go_upto_region 3 with (fail))
  go_cut [11] (fun v11 wc => ∃ (kq : Nat) (x11_7 : Bool), v11 = .bool x11_7 ∧ Aside0 (impl_roomOf.j0 kq a1 x11_7 a0_0 a0_1 a0_2 a0_3 = some r) ∧ Aside0 (kq ≤ k) ∧ Aside0 (wc.heap[gb446]? = some (.cells #[.int .i64 a0_0, .int .i64 a0_1, .int .u32 a0_2, .int .i64 a0_3] 61 (0, 0))) ∧ Aside0 (Below w.heap.size w wc))
  case first => as_aux_lemma =>
   have H := HC8.out
   clear HC8
   replace H := ieq H
   rcases H with ⟨c9b0, c9b1, H⟩ | ⟨c9, c9b0, c9b1, H⟩
   ·(first | rw [c9b0] | (simp only [i64_w, i32_w]; rw [c9b0]) | (simp only [c9b2, Bool.not_true, Bool.not_false]) | (simp only [c9b1, Bool.not_true, Bool.not_false]) | skip)
    have H' := Aside0.mk H
    clear H
    obtain ⟨z10_0, z10_1, z10_2, z10_3⟩ := ca4 BK446
    obtain ⟨f10_0, f10_1, f10_2, f10_3⟩ := fa4 BK446
    go_wp2
    repeat (go_quiet (fail); try go_wp2)
    go_meet
    case rel => exact ⟨_, ((a0_1 == a1)), ev, H', ⟨om⟩, ⟨bk BK446⟩, ⟨bw⟩⟩
   ·(first | rw [c9b0] | (simp only [i64_w, i32_w]; rw [c9b0]) | (simp only [c9b2, Bool.not_true, Bool.not_false]) | (simp only [c9b1, Bool.not_true, Bool.not_false]) | skip)
    have H' := Aside0.mk H
    clear H
    obtain ⟨z11_0, z11_1, z11_2, z11_3⟩ := ca4 BK446
    obtain ⟨f11_0, f11_1, f11_2, f11_3⟩ := fa4 BK446
    go_wp2
    repeat (go_quiet (fail); try go_wp2)
    go_meet
    case rel => exact ⟨_, (false), ev, H', ⟨om⟩, ⟨bk BK446⟩, ⟨bw⟩⟩
  case rest => as_aux_lemma =>
   clear HC8
   try clear c6
   try clear c6b0
   try clear c6b1
   try clear c6b2
   (try clear z5_0 z5_1 z5_2 z5_3)
   (try clear f5_0 f5_1 f5_2 f5_3)
   obtain ⟨kq, x11_7, rfl, HA, HJ7, BK446, HB⟩ := hcut
   cases kq with
   | zero => exact absurd HA.out (by simp [impl_roomOf.j0])
   | succ kj7 =>
    have H := HA.out
    clear HA
    simp only [impl_roomOf.j0] at H
    replace H := ib H
    rcases H with ⟨rfl, H⟩ | ⟨rfl, H⟩
    ·replace H := bn H
     obtain ⟨t448, A13, H⟩ := H
     try dsimp only at H
     replace H := bn H
     obtain ⟨t449, A14, H⟩ := H
     try dsimp only at H
     obtain rfl := Option.some.inj H
     go_wp2_with (first | (go_at_call 88; (with_reducible refine (impl_PerPage.calls _ _ _ A13.out).mono ?_); rintro e w' ⟨rfl, ⟨nd, rfl⟩⟩; (try first | exact ⟨rfl, _, World.drewN_drewN _ _ _⟩ | exact ⟨rfl, _, Eq.trans (World.drewN_drewN _ _ _) (congrArg (World.drewN _) (Nat.add_assoc _ _ _))⟩); obtain ⟨z15_0, z15_1, z15_2, z15_3⟩ := ca4 BK446; obtain ⟨f15_0, f15_1, f15_2, f15_3⟩ := fa4 BK446) | (go_at_call 100; (with_reducible refine (impl_Ones.calls _ _ _ A14.out).mono ?_); rintro e w' ⟨rfl, ⟨nd, rfl⟩⟩; (try first | exact ⟨rfl, _, World.drewN_drewN _ _ _⟩ | exact ⟨rfl, _, Eq.trans (World.drewN_drewN _ _ _) (congrArg (World.drewN _) (Nat.add_assoc _ _ _))⟩)))
     repeat (go_quiet (first | (go_at_call 88; (with_reducible refine (impl_PerPage.calls _ _ _ A13.out).mono ?_); rintro e w' ⟨rfl, ⟨nd, rfl⟩⟩; (try first | exact ⟨rfl, _, World.drewN_drewN _ _ _⟩ | exact ⟨rfl, _, Eq.trans (World.drewN_drewN _ _ _) (congrArg (World.drewN _) (Nat.add_assoc _ _ _))⟩); obtain ⟨z15_0, z15_1, z15_2, z15_3⟩ := ca4 BK446; obtain ⟨f15_0, f15_1, f15_2, f15_3⟩ := fa4 BK446) | (go_at_call 100; (with_reducible refine (impl_Ones.calls _ _ _ A14.out).mono ?_); rintro e w' ⟨rfl, ⟨nd, rfl⟩⟩; (try first | exact ⟨rfl, _, World.drewN_drewN _ _ _⟩ | exact ⟨rfl, _, Eq.trans (World.drewN_drewN _ _ _) (congrArg (World.drewN _) (Nat.add_assoc _ _ _))⟩))); try go_wp2_with (first | (go_at_call 88; (with_reducible refine (impl_PerPage.calls _ _ _ A13.out).mono ?_); rintro e w' ⟨rfl, ⟨nd, rfl⟩⟩; (try first | exact ⟨rfl, _, World.drewN_drewN _ _ _⟩ | exact ⟨rfl, _, Eq.trans (World.drewN_drewN _ _ _) (congrArg (World.drewN _) (Nat.add_assoc _ _ _))⟩); obtain ⟨z15_0, z15_1, z15_2, z15_3⟩ := ca4 BK446; obtain ⟨f15_0, f15_1, f15_2, f15_3⟩ := fa4 BK446) | (go_at_call 100; (with_reducible refine (impl_Ones.calls _ _ _ A14.out).mono ?_); rintro e w' ⟨rfl, ⟨nd, rfl⟩⟩; (try first | exact ⟨rfl, _, World.drewN_drewN _ _ _⟩ | exact ⟨rfl, _, Eq.trans (World.drewN_drewN _ _ _) (congrArg (World.drewN _) (Nat.add_assoc _ _ _))⟩))))
     go_ret
     exact ⟨rt, bw⟩
    ·obtain rfl := Option.some.inj H
     go_wp2
     repeat (go_quiet (fail); try go_wp2)
     go_ret
     exact ⟨rt, bw⟩

/-! ### impl_Room: function 82 -/
def impl_Room.f (k : Nat) (a0 : Int) (a1 : Int) : Option (Int) := (impl_CtlRead.f k a0).bind fun bt450 => (if bt450.2.2.2.2 = true then ((impl_roomOf.f k bt450.1 bt450.2.1 bt450.2.2.1 bt450.2.2.2.1 a1).bind fun t456 => (some t456)) else (some 0))
theorem impl_Room.mono : ∀ a0 a1 k, LeO (impl_Room.f k a0 a1) (impl_Room.f (k + 1) a0 a1) := by
 intro a0 a1 k
 unfold impl_Room.f
 repeat' first
  | (with_reducible first | exact impl_CtlRead.mono .. | exact impl_roomOf.mono .. | exact LeO.refl _ | exact LeO.none _ | refine LeO.ite ?_ ?_ | refine LeO.bind ?_ (fun _ => ?_))
  | exact LeO.none _ | refine LeO.ite ?_ ?_ | refine LeO.bind ?_ (fun _ => ?_)
set_option maxHeartbeats 8000000 in
set_option maxRecDepth 100000 in
theorem impl_Room.calls (k : Nat) (a0 : Int) (a1 : Int) (r : Int) (w : World) (h : impl_Room.f k a0 a1 = some r) :
  Calls Tryz.prog 82 #[.int .u32 a0, .int .i64 a1] w fun e w' => e = .returned (.int .i64 r) ∧ Below w.heap.size w w' := by
 have hu61 := Tryz.underlying61
 have HB := Aside0.mk (Below.refl w.heap.size w)
 unfold impl_Room.f at h
 have H := h
 clear h
 replace H := bn H
 obtain ⟨⟨t450, t451, t452, t453, t454⟩, A3, H⟩ := H
 try dsimp only at H
 have HU4 := Aside0.mk H
 clear H
 go_enter Tryz.func82, Tryz.ntmps82
 go_upto_if 13 with (first | ((with_reducible refine gf 39 ?_); refine gc Tryz.func39 (some 9) (impl_CtlRead.calls _ _ _ _ _ _ _ _ A3.out) ?_; rintro e w5 ⟨rfl, hb⟩; refine ⟨_, rfl, ?_⟩; replace HB := hs hb; try clear hb) | ((with_reducible refine gd 5 ?_); refine bx 5 61 #[.int .i64 0, .int .i64 0, .int .u32 0, .int .i64 0] ?_; clear HB; intro gb455 w6 hg BK455 hb GE455 HB; clear hb hg; obtain ⟨z7_0, z7_1, z7_2, z7_3⟩ := ca4 BK455; obtain ⟨f7_0, f7_1, f7_2, f7_3⟩ := fa4 BK455))
 (try refine ap ?_)
 have H := HU4.out
 clear HU4
 replace H := ib H
 rcases H with ⟨rfl, H⟩ | ⟨rfl, H⟩
 ·(try simp only [Bool.not_true, Bool.not_false])
  replace H := bn H
  obtain ⟨t456, A9, H⟩ := H
  try dsimp only at H
  obtain rfl := Option.some.inj H
  obtain ⟨z10_0, z10_1, z10_2, z10_3⟩ := ca4 BK455
  obtain ⟨f10_0, f10_1, f10_2, f10_3⟩ := fa4 BK455
  go_wp2_with (first | ((with_reducible refine gf 95 ?_); refine gc Tryz.func95 (some 16) (impl_roomOf.calls _ _ _ _ _ _ _ _ A9.out) ?_; rintro e w11 ⟨rfl, hb⟩; refine ⟨_, rfl, ?_⟩; replace BK455 := bq BK455 #[.int .i64 t450, .int .i64 t451, .int .u32 t452, .int .i64 t453] hb; replace HB := hs hb; try clear hb))
  go_ret
  exact ⟨rt, bw⟩
 ·(try simp only [Bool.not_true, Bool.not_false])
  obtain rfl := Option.some.inj H
  go_wp2
  go_ret
  exact ⟨rt, bw⟩

/-! ### bits_Len64: function 102 -/
def bits_Len64.j0 : Nat → Int → Int → Option (Int)
 | 0, _, _ => none
 | k + 1, x0, x2 => if x0 ≥ 65536 then (if (x0 / 65536) ≥ 256 then (if 0 ≤ (((x0 / 65536) / 256) % 256) then (if (((x0 / 65536) / 256) % 256) < 256 then (some (wrap64 ((wrap64 ((wrap64 (x2 + 16)) + 8)) + (wrap64 (bt (⟨#[0, 1, 2, 2, 3, 3, 3, 3, 4, 4, 4, 4, 4, 4, 4, 4, 5, 5, 5, 5, 5, 5, 5, 5, 5, 5, 5, 5, 5, 5, 5, 5, 6, 6, 6, 6, 6, 6, 6, 6, 6, 6, 6, 6, 6, 6, 6, 6, 6, 6, 6, 6, 6, 6, 6, 6, 6, 6, 6, 6, 6, 6, 6, 6, 7, 7, 7, 7, 7, 7, 7, 7, 7, 7, 7, 7, 7, 7, 7, 7, 7, 7, 7, 7, 7, 7, 7, 7, 7, 7, 7, 7, 7, 7, 7, 7, 7, 7, 7, 7, 7, 7, 7, 7, 7, 7, 7, 7, 7, 7, 7, 7, 7, 7, 7, 7, 7, 7, 7, 7, 7, 7, 7, 7, 7, 7, 7, 7, 8, 8, 8, 8, 8, 8, 8, 8, 8, 8, 8, 8, 8, 8, 8, 8, 8, 8, 8, 8, 8, 8, 8, 8, 8, 8, 8, 8, 8, 8, 8, 8, 8, 8, 8, 8, 8, 8, 8, 8, 8, 8, 8, 8, 8, 8, 8, 8, 8, 8, 8, 8, 8, 8, 8, 8, 8, 8, 8, 8, 8, 8, 8, 8, 8, 8, 8, 8, 8, 8, 8, 8, 8, 8, 8, 8, 8, 8, 8, 8, 8, 8, 8, 8, 8, 8, 8, 8, 8, 8, 8, 8, 8, 8, 8, 8, 8, 8, 8, 8, 8, 8, 8, 8, 8, 8, 8, 8, 8, 8, 8, 8, 8, 8, 8, 8, 8, 8, 8, 8, 8, 8, 8, 8, 8, 8, 8, 8]⟩ : ByteArray) (((x0 / 65536) / 256) % 256)))))) else (none)) else (none)) else (if 0 ≤ ((x0 / 65536) % 256) then (if ((x0 / 65536) % 256) < 256 then (some (wrap64 ((wrap64 (x2 + 16)) + (wrap64 (bt (⟨#[0, 1, 2, 2, 3, 3, 3, 3, 4, 4, 4, 4, 4, 4, 4, 4, 5, 5, 5, 5, 5, 5, 5, 5, 5, 5, 5, 5, 5, 5, 5, 5, 6, 6, 6, 6, 6, 6, 6, 6, 6, 6, 6, 6, 6, 6, 6, 6, 6, 6, 6, 6, 6, 6, 6, 6, 6, 6, 6, 6, 6, 6, 6, 6, 7, 7, 7, 7, 7, 7, 7, 7, 7, 7, 7, 7, 7, 7, 7, 7, 7, 7, 7, 7, 7, 7, 7, 7, 7, 7, 7, 7, 7, 7, 7, 7, 7, 7, 7, 7, 7, 7, 7, 7, 7, 7, 7, 7, 7, 7, 7, 7, 7, 7, 7, 7, 7, 7, 7, 7, 7, 7, 7, 7, 7, 7, 7, 7, 8, 8, 8, 8, 8, 8, 8, 8, 8, 8, 8, 8, 8, 8, 8, 8, 8, 8, 8, 8, 8, 8, 8, 8, 8, 8, 8, 8, 8, 8, 8, 8, 8, 8, 8, 8, 8, 8, 8, 8, 8, 8, 8, 8, 8, 8, 8, 8, 8, 8, 8, 8, 8, 8, 8, 8, 8, 8, 8, 8, 8, 8, 8, 8, 8, 8, 8, 8, 8, 8, 8, 8, 8, 8, 8, 8, 8, 8, 8, 8, 8, 8, 8, 8, 8, 8, 8, 8, 8, 8, 8, 8, 8, 8, 8, 8, 8, 8, 8, 8, 8, 8, 8, 8, 8, 8, 8, 8, 8, 8, 8, 8, 8, 8, 8, 8, 8, 8, 8, 8, 8, 8, 8, 8, 8, 8, 8, 8]⟩ : ByteArray) ((x0 / 65536) % 256)))))) else (none)) else (none))) else (if x0 ≥ 256 then (if 0 ≤ ((x0 / 256) % 256) then (if ((x0 / 256) % 256) < 256 then (some (wrap64 ((wrap64 (x2 + 8)) + (wrap64 (bt (⟨#[0, 1, 2, 2, 3, 3, 3, 3, 4, 4, 4, 4, 4, 4, 4, 4, 5, 5, 5, 5, 5, 5, 5, 5, 5, 5, 5, 5, 5, 5, 5, 5, 6, 6, 6, 6, 6, 6, 6, 6, 6, 6, 6, 6, 6, 6, 6, 6, 6, 6, 6, 6, 6, 6, 6, 6, 6, 6, 6, 6, 6, 6, 6, 6, 7, 7, 7, 7, 7, 7, 7, 7, 7, 7, 7, 7, 7, 7, 7, 7, 7, 7, 7, 7, 7, 7, 7, 7, 7, 7, 7, 7, 7, 7, 7, 7, 7, 7, 7, 7, 7, 7, 7, 7, 7, 7, 7, 7, 7, 7, 7, 7, 7, 7, 7, 7, 7, 7, 7, 7, 7, 7, 7, 7, 7, 7, 7, 7, 8, 8, 8, 8, 8, 8, 8, 8, 8, 8, 8, 8, 8, 8, 8, 8, 8, 8, 8, 8, 8, 8, 8, 8, 8, 8, 8, 8, 8, 8, 8, 8, 8, 8, 8, 8, 8, 8, 8, 8, 8, 8, 8, 8, 8, 8, 8, 8, 8, 8, 8, 8, 8, 8, 8, 8, 8, 8, 8, 8, 8, 8, 8, 8, 8, 8, 8, 8, 8, 8, 8, 8, 8, 8, 8, 8, 8, 8, 8, 8, 8, 8, 8, 8, 8, 8, 8, 8, 8, 8, 8, 8, 8, 8, 8, 8, 8, 8, 8, 8, 8, 8, 8, 8, 8, 8, 8, 8, 8, 8, 8, 8, 8, 8, 8, 8, 8, 8, 8, 8, 8, 8, 8, 8, 8, 8, 8, 8]⟩ : ByteArray) ((x0 / 256) % 256)))))) else (none)) else (none)) else (if 0 ≤ ((x0) % 256) then (if ((x0) % 256) < 256 then (some (wrap64 (x2 + (wrap64 (bt (⟨#[0, 1, 2, 2, 3, 3, 3, 3, 4, 4, 4, 4, 4, 4, 4, 4, 5, 5, 5, 5, 5, 5, 5, 5, 5, 5, 5, 5, 5, 5, 5, 5, 6, 6, 6, 6, 6, 6, 6, 6, 6, 6, 6, 6, 6, 6, 6, 6, 6, 6, 6, 6, 6, 6, 6, 6, 6, 6, 6, 6, 6, 6, 6, 6, 7, 7, 7, 7, 7, 7, 7, 7, 7, 7, 7, 7, 7, 7, 7, 7, 7, 7, 7, 7, 7, 7, 7, 7, 7, 7, 7, 7, 7, 7, 7, 7, 7, 7, 7, 7, 7, 7, 7, 7, 7, 7, 7, 7, 7, 7, 7, 7, 7, 7, 7, 7, 7, 7, 7, 7, 7, 7, 7, 7, 7, 7, 7, 7, 8, 8, 8, 8, 8, 8, 8, 8, 8, 8, 8, 8, 8, 8, 8, 8, 8, 8, 8, 8, 8, 8, 8, 8, 8, 8, 8, 8, 8, 8, 8, 8, 8, 8, 8, 8, 8, 8, 8, 8, 8, 8, 8, 8, 8, 8, 8, 8, 8, 8, 8, 8, 8, 8, 8, 8, 8, 8, 8, 8, 8, 8, 8, 8, 8, 8, 8, 8, 8, 8, 8, 8, 8, 8, 8, 8, 8, 8, 8, 8, 8, 8, 8, 8, 8, 8, 8, 8, 8, 8, 8, 8, 8, 8, 8, 8, 8, 8, 8, 8, 8, 8, 8, 8, 8, 8, 8, 8, 8, 8, 8, 8, 8, 8, 8, 8, 8, 8, 8, 8, 8, 8, 8, 8, 8, 8, 8, 8]⟩ : ByteArray) ((x0) % 256)))))) else (none)) else (none)))
def bits_Len64.f (k : Nat) (a0 : Int) : Option (Int) := if a0 ≥ 4294967296 then (bits_Len64.j0 k (a0 / 4294967296) 32) else (bits_Len64.j0 k a0 0)
theorem bits_Len64.mono_l : ∀ k, (∀ y0 y1, LeO (bits_Len64.j0 k y0 y1) (bits_Len64.j0 (k + 1) y0 y1))
 | 0 => fun _ _ r h => by simp [bits_Len64.j0] at h
 | k + 1 => by
  have ih0 := bits_Len64.mono_l k
  ·intro y0 y1
   unfold bits_Len64.j0
   repeat' first
    | (with_reducible first | exact ih0 .. | exact LeO.refl _ | exact LeO.none _ | refine LeO.ite ?_ ?_ | refine LeO.bind ?_ (fun _ => ?_))
    | exact LeO.none _ | refine LeO.ite ?_ ?_ | refine LeO.bind ?_ (fun _ => ?_)
theorem bits_Len64.mono : ∀ a0 k, LeO (bits_Len64.f k a0) (bits_Len64.f (k + 1) a0) := by
 intro a0 k
 have ih0 := bits_Len64.mono_l k
 unfold bits_Len64.f
 repeat' first
  | (with_reducible first | exact ih0 .. | exact LeO.refl _ | exact LeO.none _ | refine LeO.ite ?_ ?_ | refine LeO.bind ?_ (fun _ => ?_))
  | exact LeO.none _ | refine LeO.ite ?_ ?_ | refine LeO.bind ?_ (fun _ => ?_)
set_option maxHeartbeats 8000000 in
set_option maxRecDepth 100000 in
theorem bits_Len64.calls (k : Nat) (a0 : Int) (r : Int) (w : World) (h : bits_Len64.f k a0 = some r) :
  Calls Tryz.prog 102 #[.int .u64 a0] w fun e w' => e = .returned (.int .i64 r) ∧ Drawn0 w w' := by
 unfold bits_Len64.f at h
 have H := h
 clear h
 have HC2 := Aside0.mk H
 clear H
 go_enter Tryz.func102, Tryz.ntmps102
 go_upto_if 4 with (fail)
 go_cut [0, 2] (fun v0 v2 wc => ∃ (kq : Nat) (x0_1 : Int) (x2_1 : Int), v0 = .int .u64 x0_1 ∧ v2 = .int .i64 x2_1 ∧ Aside0 (bits_Len64.j0 kq x0_1 x2_1 = some r) ∧ Aside0 (kq ≤ k) ∧ Drawn0 w wc)
 case first => as_aux_lemma =>
  have H := HC2.out
  clear HC2
  replace H := ige H
  rcases H with ⟨c3b0, H⟩ | ⟨c3b0, H⟩
  ·(first | rw [c3b0] | (simp only [i64_w, i32_w]; rw [c3b0]) | (simp only [c3b2, Bool.not_true, Bool.not_false]) | (simp only [c3b1, Bool.not_true, Bool.not_false]) | skip)
   have H' := Aside0.mk H
   clear H
   go_wp2
   go_meet
   case rel => exact ⟨_, (a0 / 4294967296), (32), ev, ev, H', ⟨om⟩, dr⟩
  ·(first | rw [c3b0] | (simp only [i64_w, i32_w]; rw [c3b0]) | (simp only [c3b2, Bool.not_true, Bool.not_false]) | (simp only [c3b1, Bool.not_true, Bool.not_false]) | skip)
   have H' := Aside0.mk H
   clear H
   go_wp2
   go_meet
   case rel => exact ⟨_, (a0), (0), ev, ev, H', ⟨om⟩, dr⟩
 case rest => as_aux_lemma =>
  clear HC2
  obtain ⟨kq, x0_1, x2_1, rfl, rfl, HA, HJ1, ⟨mc1, rfl⟩⟩ := hcut
  cases kq with
  | zero => exact absurd HA.out (by simp [bits_Len64.j0])
  | succ kj1 =>
   have H := HA.out
   clear HA
   simp only [bits_Len64.j0] at H
   replace H := ige H
   rcases H with ⟨c4b0, H⟩ | ⟨c4b0, H⟩
   ·replace H := ige H
    rcases H with ⟨c5b0, H⟩ | ⟨c5b0, H⟩
    ·obtain ⟨ji6, hji6⟩ : ∃ j_ : Int, (((x0_1 / 65536) / 256) % 256) = j_ := ⟨_, rfl⟩
     first | rw [hji6] at H | simp only [hji6] at H
     by_cases c7 : 0 ≤ (ji6)
     ·rw [if_pos c7] at H
      have c7b0 : decide (0 ≤ (ji6)) = true := decide_eq_true c7
      clear c7
      by_cases c8 : (ji6) < 256
      ·rw [if_pos c8] at H
       have c8b0 : decide ((ji6) < 256) = true := decide_eq_true c8
       clear c8
       obtain rfl := Option.some.inj H
       have p9 : 0 ≤ ((ji6) : Int) := of_decide_eq_true as_
       have q9 : (ji6) < (256 : Int) := of_decide_eq_true as_
       have hx9 := bt_at (⟨#[0, 1, 2, 2, 3, 3, 3, 3, 4, 4, 4, 4, 4, 4, 4, 4, 5, 5, 5, 5, 5, 5, 5, 5, 5, 5, 5, 5, 5, 5, 5, 5, 6, 6, 6, 6, 6, 6, 6, 6, 6, 6, 6, 6, 6, 6, 6, 6, 6, 6, 6, 6, 6, 6, 6, 6, 6, 6, 6, 6, 6, 6, 6, 6, 7, 7, 7, 7, 7, 7, 7, 7, 7, 7, 7, 7, 7, 7, 7, 7, 7, 7, 7, 7, 7, 7, 7, 7, 7, 7, 7, 7, 7, 7, 7, 7, 7, 7, 7, 7, 7, 7, 7, 7, 7, 7, 7, 7, 7, 7, 7, 7, 7, 7, 7, 7, 7, 7, 7, 7, 7, 7, 7, 7, 7, 7, 7, 7, 8, 8, 8, 8, 8, 8, 8, 8, 8, 8, 8, 8, 8, 8, 8, 8, 8, 8, 8, 8, 8, 8, 8, 8, 8, 8, 8, 8, 8, 8, 8, 8, 8, 8, 8, 8, 8, 8, 8, 8, 8, 8, 8, 8, 8, 8, 8, 8, 8, 8, 8, 8, 8, 8, 8, 8, 8, 8, 8, 8, 8, 8, 8, 8, 8, 8, 8, 8, 8, 8, 8, 8, 8, 8, 8, 8, 8, 8, 8, 8, 8, 8, 8, 8, 8, 8, 8, 8, 8, 8, 8, 8, 8, 8, 8, 8, 8, 8, 8, 8, 8, 8, 8, 8, 8, 8, 8, 8, 8, 8, 8, 8, 8, 8, 8, 8, 8, 8, 8, 8, 8, 8, 8, 8, 8, 8, 8, 8]⟩ : ByteArray) (ji6)
       replace p9 := eq_true p9
       replace q9 := eq_true q9
       go_wp2
       go_ret
       exact ⟨by first | rfl | (simp; done) | (simp only [← hji6] <;> (first | rfl | simp)) | (simp [*]; done), dr⟩
      ·rw [if_neg c8] at H
       exact absurd H (by simp)
     ·rw [if_neg c7] at H
      exact absurd H (by simp)
    ·obtain ⟨ji10, hji10⟩ : ∃ j_ : Int, ((x0_1 / 65536) % 256) = j_ := ⟨_, rfl⟩
     first | rw [hji10] at H | simp only [hji10] at H
     by_cases c11 : 0 ≤ (ji10)
     ·rw [if_pos c11] at H
      have c11b0 : decide (0 ≤ (ji10)) = true := decide_eq_true c11
      clear c11
      by_cases c12 : (ji10) < 256
      ·rw [if_pos c12] at H
       have c12b0 : decide ((ji10) < 256) = true := decide_eq_true c12
       clear c12
       obtain rfl := Option.some.inj H
       have p13 : 0 ≤ ((ji10) : Int) := of_decide_eq_true as_
       have q13 : (ji10) < (256 : Int) := of_decide_eq_true as_
       have hx13 := bt_at (⟨#[0, 1, 2, 2, 3, 3, 3, 3, 4, 4, 4, 4, 4, 4, 4, 4, 5, 5, 5, 5, 5, 5, 5, 5, 5, 5, 5, 5, 5, 5, 5, 5, 6, 6, 6, 6, 6, 6, 6, 6, 6, 6, 6, 6, 6, 6, 6, 6, 6, 6, 6, 6, 6, 6, 6, 6, 6, 6, 6, 6, 6, 6, 6, 6, 7, 7, 7, 7, 7, 7, 7, 7, 7, 7, 7, 7, 7, 7, 7, 7, 7, 7, 7, 7, 7, 7, 7, 7, 7, 7, 7, 7, 7, 7, 7, 7, 7, 7, 7, 7, 7, 7, 7, 7, 7, 7, 7, 7, 7, 7, 7, 7, 7, 7, 7, 7, 7, 7, 7, 7, 7, 7, 7, 7, 7, 7, 7, 7, 8, 8, 8, 8, 8, 8, 8, 8, 8, 8, 8, 8, 8, 8, 8, 8, 8, 8, 8, 8, 8, 8, 8, 8, 8, 8, 8, 8, 8, 8, 8, 8, 8, 8, 8, 8, 8, 8, 8, 8, 8, 8, 8, 8, 8, 8, 8, 8, 8, 8, 8, 8, 8, 8, 8, 8, 8, 8, 8, 8, 8, 8, 8, 8, 8, 8, 8, 8, 8, 8, 8, 8, 8, 8, 8, 8, 8, 8, 8, 8, 8, 8, 8, 8, 8, 8, 8, 8, 8, 8, 8, 8, 8, 8, 8, 8, 8, 8, 8, 8, 8, 8, 8, 8, 8, 8, 8, 8, 8, 8, 8, 8, 8, 8, 8, 8, 8, 8, 8, 8, 8, 8, 8, 8, 8, 8, 8, 8]⟩ : ByteArray) (ji10)
       replace p13 := eq_true p13
       replace q13 := eq_true q13
       go_wp2
       go_ret
       exact ⟨by first | rfl | (simp; done) | (simp only [← hji10] <;> (first | rfl | simp)) | (simp [*]; done), dr⟩
      ·rw [if_neg c12] at H
       exact absurd H (by simp)
     ·rw [if_neg c11] at H
      exact absurd H (by simp)
   ·replace H := ige H
    rcases H with ⟨c14b0, H⟩ | ⟨c14b0, H⟩
    ·obtain ⟨ji15, hji15⟩ : ∃ j_ : Int, ((x0_1 / 256) % 256) = j_ := ⟨_, rfl⟩
     first | rw [hji15] at H | simp only [hji15] at H
     by_cases c16 : 0 ≤ (ji15)
     ·rw [if_pos c16] at H
      have c16b0 : decide (0 ≤ (ji15)) = true := decide_eq_true c16
      clear c16
      by_cases c17 : (ji15) < 256
      ·rw [if_pos c17] at H
       have c17b0 : decide ((ji15) < 256) = true := decide_eq_true c17
       clear c17
       obtain rfl := Option.some.inj H
       have p18 : 0 ≤ ((ji15) : Int) := of_decide_eq_true as_
       have q18 : (ji15) < (256 : Int) := of_decide_eq_true as_
       have hx18 := bt_at (⟨#[0, 1, 2, 2, 3, 3, 3, 3, 4, 4, 4, 4, 4, 4, 4, 4, 5, 5, 5, 5, 5, 5, 5, 5, 5, 5, 5, 5, 5, 5, 5, 5, 6, 6, 6, 6, 6, 6, 6, 6, 6, 6, 6, 6, 6, 6, 6, 6, 6, 6, 6, 6, 6, 6, 6, 6, 6, 6, 6, 6, 6, 6, 6, 6, 7, 7, 7, 7, 7, 7, 7, 7, 7, 7, 7, 7, 7, 7, 7, 7, 7, 7, 7, 7, 7, 7, 7, 7, 7, 7, 7, 7, 7, 7, 7, 7, 7, 7, 7, 7, 7, 7, 7, 7, 7, 7, 7, 7, 7, 7, 7, 7, 7, 7, 7, 7, 7, 7, 7, 7, 7, 7, 7, 7, 7, 7, 7, 7, 8, 8, 8, 8, 8, 8, 8, 8, 8, 8, 8, 8, 8, 8, 8, 8, 8, 8, 8, 8, 8, 8, 8, 8, 8, 8, 8, 8, 8, 8, 8, 8, 8, 8, 8, 8, 8, 8, 8, 8, 8, 8, 8, 8, 8, 8, 8, 8, 8, 8, 8, 8, 8, 8, 8, 8, 8, 8, 8, 8, 8, 8, 8, 8, 8, 8, 8, 8, 8, 8, 8, 8, 8, 8, 8, 8, 8, 8, 8, 8, 8, 8, 8, 8, 8, 8, 8, 8, 8, 8, 8, 8, 8, 8, 8, 8, 8, 8, 8, 8, 8, 8, 8, 8, 8, 8, 8, 8, 8, 8, 8, 8, 8, 8, 8, 8, 8, 8, 8, 8, 8, 8, 8, 8, 8, 8, 8, 8]⟩ : ByteArray) (ji15)
       replace p18 := eq_true p18
       replace q18 := eq_true q18
       go_wp2
       go_ret
       exact ⟨by first | rfl | (simp; done) | (simp only [← hji15] <;> (first | rfl | simp)) | (simp [*]; done), dr⟩
      ·rw [if_neg c17] at H
       exact absurd H (by simp)
     ·rw [if_neg c16] at H
      exact absurd H (by simp)
    ·obtain ⟨ji19, hji19⟩ : ∃ j_ : Int, ((x0_1) % 256) = j_ := ⟨_, rfl⟩
     first | rw [hji19] at H | simp only [hji19] at H
     by_cases c20 : 0 ≤ (ji19)
     ·rw [if_pos c20] at H
      have c20b0 : decide (0 ≤ (ji19)) = true := decide_eq_true c20
      clear c20
      by_cases c21 : (ji19) < 256
      ·rw [if_pos c21] at H
       have c21b0 : decide ((ji19) < 256) = true := decide_eq_true c21
       clear c21
       obtain rfl := Option.some.inj H
       have p22 : 0 ≤ ((ji19) : Int) := of_decide_eq_true as_
       have q22 : (ji19) < (256 : Int) := of_decide_eq_true as_
       have hx22 := bt_at (⟨#[0, 1, 2, 2, 3, 3, 3, 3, 4, 4, 4, 4, 4, 4, 4, 4, 5, 5, 5, 5, 5, 5, 5, 5, 5, 5, 5, 5, 5, 5, 5, 5, 6, 6, 6, 6, 6, 6, 6, 6, 6, 6, 6, 6, 6, 6, 6, 6, 6, 6, 6, 6, 6, 6, 6, 6, 6, 6, 6, 6, 6, 6, 6, 6, 7, 7, 7, 7, 7, 7, 7, 7, 7, 7, 7, 7, 7, 7, 7, 7, 7, 7, 7, 7, 7, 7, 7, 7, 7, 7, 7, 7, 7, 7, 7, 7, 7, 7, 7, 7, 7, 7, 7, 7, 7, 7, 7, 7, 7, 7, 7, 7, 7, 7, 7, 7, 7, 7, 7, 7, 7, 7, 7, 7, 7, 7, 7, 7, 8, 8, 8, 8, 8, 8, 8, 8, 8, 8, 8, 8, 8, 8, 8, 8, 8, 8, 8, 8, 8, 8, 8, 8, 8, 8, 8, 8, 8, 8, 8, 8, 8, 8, 8, 8, 8, 8, 8, 8, 8, 8, 8, 8, 8, 8, 8, 8, 8, 8, 8, 8, 8, 8, 8, 8, 8, 8, 8, 8, 8, 8, 8, 8, 8, 8, 8, 8, 8, 8, 8, 8, 8, 8, 8, 8, 8, 8, 8, 8, 8, 8, 8, 8, 8, 8, 8, 8, 8, 8, 8, 8, 8, 8, 8, 8, 8, 8, 8, 8, 8, 8, 8, 8, 8, 8, 8, 8, 8, 8, 8, 8, 8, 8, 8, 8, 8, 8, 8, 8, 8, 8, 8, 8, 8, 8, 8, 8]⟩ : ByteArray) (ji19)
       replace p22 := eq_true p22
       replace q22 := eq_true q22
       go_wp2
       go_ret
       exact ⟨by first | rfl | (simp; done) | (simp only [← hji19] <;> (first | rfl | simp)) | (simp [*]; done), dr⟩
      ·rw [if_neg c21] at H
       exact absurd H (by simp)
     ·rw [if_neg c20] at H
      exact absurd H (by simp)

/-! ### bits_Len: function 96 -/
def bits_Len.f (k : Nat) (a0 : Int) : Option (Int) := (bits_Len64.f k a0).bind fun t457 => (some t457)
theorem bits_Len.mono : ∀ a0 k, LeO (bits_Len.f k a0) (bits_Len.f (k + 1) a0) := by
 intro a0 k
 unfold bits_Len.f
 repeat' first
  | (with_reducible first | exact bits_Len64.mono .. | exact LeO.refl _ | exact LeO.none _ | refine LeO.ite ?_ ?_ | refine LeO.bind ?_ (fun _ => ?_))
  | exact LeO.none _ | refine LeO.ite ?_ ?_ | refine LeO.bind ?_ (fun _ => ?_)
set_option maxHeartbeats 8000000 in
set_option maxRecDepth 100000 in
theorem bits_Len.calls (k : Nat) (a0 : Int) (r : Int) (w : World) (h : bits_Len.f k a0 = some r) :
  Calls Tryz.prog 96 #[.int .u64 a0] w fun e w' => e = .returned (.int .i64 r) ∧ Drawn0 w w' := by
 unfold bits_Len.f at h
 have H := h
 clear h
 replace H := bn H
 obtain ⟨t457, A2, H⟩ := H
 try dsimp only at H
 obtain rfl := Option.some.inj H
 go_enter Tryz.func96, Tryz.ntmps96
 go_wp2_with (first | ((with_reducible refine gf 102 ?_); refine gc Tryz.func102 (some 7) (bits_Len64.calls _ _ _ _ A2.out) ?_; rintro e w' ⟨rfl, ⟨nd, rfl⟩⟩; refine ⟨_, rfl, ?_⟩))
 go_ret
 exact ⟨ev, dr⟩

/-! ### impl_ClassOf: function 83 -/
def impl_ClassOf.f (k : Nat) (a0 : Int) : Option (Int) := (impl_within.f a0 1 16).bind fun t458 => (if t458 = true then ((bits_Len.f k (IntKind.u64.wrap (wrap64 (a0 - 1)))).bind fun t459 => (some t459)) else (some (-1)))
theorem impl_ClassOf.mono : ∀ a0 k, LeO (impl_ClassOf.f k a0) (impl_ClassOf.f (k + 1) a0) := by
 intro a0 k
 unfold impl_ClassOf.f
 repeat' first
  | (with_reducible first | exact bits_Len.mono .. | exact LeO.refl _ | exact LeO.none _ | refine LeO.ite ?_ ?_ | refine LeO.bind ?_ (fun _ => ?_))
  | exact LeO.none _ | refine LeO.ite ?_ ?_ | refine LeO.bind ?_ (fun _ => ?_)
set_option maxHeartbeats 8000000 in
set_option maxRecDepth 100000 in
theorem impl_ClassOf.calls (k : Nat) (a0 : Int) (r : Int) (w : World) (h : impl_ClassOf.f k a0 = some r) :
  Calls Tryz.prog 83 #[.int .i64 a0] w fun e w' => e = .returned (.int .i64 r) ∧ Drawn0 w w' := by
 unfold impl_ClassOf.f at h
 have H := h
 clear h
 replace H := bn H
 obtain ⟨t458, A2, H⟩ := H
 try dsimp only at H
 have HU3 := Aside0.mk H
 clear H
 go_enter Tryz.func83, Tryz.ntmps83
 go_upto_if 5 with (first | ((with_reducible refine gf 32 ?_); refine gc Tryz.func32 (some 4) (impl_within.calls _ _ _ _ _ A2.out) ?_; rintro e w' ⟨rfl, ⟨nd, rfl⟩⟩; refine ⟨_, rfl, ?_⟩))
 (try refine ap ?_)
 have H := HU3.out
 clear HU3
 replace H := ib H
 rcases H with ⟨rfl, H⟩ | ⟨rfl, H⟩
 ·(try simp only [Bool.not_true, Bool.not_false])
  replace H := bn H
  obtain ⟨t459, A5, H⟩ := H
  try dsimp only at H
  obtain rfl := Option.some.inj H
  go_wp2_with (first | ((with_reducible refine gf 96 ?_); refine gc Tryz.func96 (some 9) (bits_Len.calls _ _ _ _ A5.out) ?_; rintro e w' ⟨rfl, ⟨nd, rfl⟩⟩; refine ⟨_, rfl, ?_⟩))
  go_ret
  exact ⟨ev, dr⟩
 ·(try simp only [Bool.not_true, Bool.not_false])
  obtain rfl := Option.some.inj H
  go_wp2
  go_ret
  exact ⟨ev, dr⟩

/-! ### impl_ChunksFor: function 84 -/
def impl_ChunksFor.f (a0 : Int) : Option (Int) := (impl_within.f a0 17 256).bind fun t464 => (if t464 = true then (some (wrap64 (Int.tdiv (wrap64 ((wrap64 (a0 + 16)) - 1)) 16))) else (some 0))
set_option maxHeartbeats 8000000 in
set_option maxRecDepth 100000 in
theorem impl_ChunksFor.calls (a0 : Int) (r : Int) (w : World) (h : impl_ChunksFor.f a0 = some r) :
  Calls Tryz.prog 84 #[.int .i64 a0] w fun e w' => e = .returned (.int .i64 r) ∧ Drawn0 w w' := by
 unfold impl_ChunksFor.f at h
 have H := h
 clear h
 replace H := bn H
 obtain ⟨t464, A2, H⟩ := H
 try dsimp only at H
 have HU3 := Aside0.mk H
 clear H
 go_enter Tryz.func84, Tryz.ntmps84
 go_upto_if 5 with (first | ((with_reducible refine gf 32 ?_); refine gc Tryz.func32 (some 4) (impl_within.calls _ _ _ _ _ A2.out) ?_; rintro e w' ⟨rfl, ⟨nd, rfl⟩⟩; refine ⟨_, rfl, ?_⟩))
 (try refine ap ?_)
 have H := HU3.out
 clear HU3
 replace H := ib H
 rcases H with ⟨rfl, H⟩ | ⟨rfl, H⟩
 ·(try simp only [Bool.not_true, Bool.not_false])
  obtain rfl := Option.some.inj H
  go_wp2
  go_ret
  exact ⟨ev, dr⟩
 ·(try simp only [Bool.not_true, Bool.not_false])
  obtain rfl := Option.some.inj H
  go_wp2
  go_ret
  exact ⟨ev, dr⟩

end Go.Proofs.YtfhcnnkeokjfpaaGreatDoor.PO1
