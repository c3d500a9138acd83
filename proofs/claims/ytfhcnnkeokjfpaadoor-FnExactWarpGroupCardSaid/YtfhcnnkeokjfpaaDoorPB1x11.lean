/- What functions of the program compute, each as a Lean function, and that the run comes to just that. Conditions: none. (Laid by this session's own program.) -/
import Derived.Test.YtfhcnnkeokjfpaaDoorT
import Derived.Test.YtfhcnnkeokjfpaaDoorPB1x0
namespace Go.Proofs.YtfhcnnkeokjfpaaDoor.PB1
open Go.RowKit Go.Proofs.YtfhcnnkeokjfpaaDoorW.PrintWords Go.Proofs.YtfhcnnkeokjfpaaDoorW.PrintLast Go.Proofs.YtfhcnnkeokjfpaaDoorW.PrintMore Go.Proofs.YtfhcnnkeokjfpaaDoor.T
attribute [local go_sem] max2_int min2_int max_two min_two max_three min_three max_four min_four   -- for this text's walks alone
set_option linter.unusedVariables false
set_option linter.unusedSimpArgs false

theorem shl_one_ (n : Int) : shl IntKind.u32 1 n = 2 ^ n.toNat % 4294967296 := by
  have e : shl IntKind.u32 1 n = IntKind.u32.wrap (1 * 2 ^ min n.toNat 32) := rfl
  rw [e]
  have w : ∀ x : Int, IntKind.u32.wrap x = x % 4294967296 := fun x => by simp [IntKind.wrap, IntKind.signed, IntKind.bits]
  rw [w, Int.one_mul]
  by_cases h : n.toNat ≤ 32
  · rw [Nat.min_eq_left h]
  · rw [Nat.min_eq_right (by omega)]
    obtain ⟨d, hd⟩ : ∃ d, n.toNat = 32 + d := ⟨n.toNat - 32, by omega⟩
    rw [hd, Int.pow_add]
    have h2 : (2 : Int) ^ 32 = 4294967296 := by decide
    rw [h2]
    omega

/-! ### impl_isMask: function 73 -/
def impl_isMask.f (a0 : Int) : Option (Bool) := some (decide (a0 < 256))
set_option maxHeartbeats 2000000 in
set_option maxRecDepth 100000 in
theorem impl_isMask.calls (a0 : Int) (r : Bool) (w : World) (h : impl_isMask.f a0 = some r) :
    Calls Tryd.prog 73 #[.int .u32 a0] w fun e w' => e = .returned (.bool r) ∧ Drawn0 w w' := by
  unfold impl_isMask.f at h
  have H := h
  clear h
  obtain rfl := Option.some.inj H
  go_enter Tryd.func73, Tryd.ntmps73
  go_wp2
  go_ret
  exact ⟨ev, dr⟩

/-! ### impl_asks: function 74 -/
def impl_asks.l0 : Nat → Int → List Int → Int → Int → Int → List Int → Option (Int)
  | 0, _, _, _, _, _, _ => none
  | k + 1, x3, x7, x8, x9, x252000, x252001 => if x9 < x8 then (if 0 ≤ x9 then (if x9 < (x7.length : Int) then (if x252000 = 1 then (if (rd x7 x9) > 0 then (impl_asks.l0 k (Go.bits .or .u32 x3 (shl .u32 1 x9)) x7 x8 (wrap64 (x9 + 1)) x252000 x252001) else (if x252000 = 2 then (if (rd x7 x9) ≥ 0 then (impl_asks.l0 k (Go.bits .or .u32 x3 (shl .u32 1 x9)) x7 x8 (wrap64 (x9 + 1)) x252000 x252001) else (impl_asks.l0 k x3 x7 x8 (wrap64 (x9 + 1)) x252000 x252001)) else (impl_asks.l0 k x3 x7 x8 (wrap64 (x9 + 1)) x252000 x252001))) else (if x252000 = 2 then (if (rd x7 x9) ≥ 0 then (impl_asks.l0 k (Go.bits .or .u32 x3 (shl .u32 1 x9)) x7 x8 (wrap64 (x9 + 1)) x252000 x252001) else (impl_asks.l0 k x3 x7 x8 (wrap64 (x9 + 1)) x252000 x252001)) else (impl_asks.l0 k x3 x7 x8 (wrap64 (x9 + 1)) x252000 x252001))) else (none)) else (none)) else (some x3)
def impl_asks.f (k : Nat) (a0_0 : Int) (l0_1 : List Int) : Option (Int) := impl_asks.l0 k 0 l0_1 (l0_1.length : Int) 0 a0_0 l0_1
theorem impl_asks.mono_l : ∀ k, (∀ y0 y1 y2 y3 y4 y5, LeO (impl_asks.l0 k y0 y1 y2 y3 y4 y5) (impl_asks.l0 (k + 1) y0 y1 y2 y3 y4 y5))
  | 0 => fun _ _ _ _ _ _ r h => by simp [impl_asks.l0] at h
  | k + 1 => by
    have ih0 := impl_asks.mono_l k
    · intro y0 y1 y2 y3 y4 y5
      unfold impl_asks.l0
      repeat' first
        | (with_reducible first | exact ih0 .. | exact LeO.refl _ | exact LeO.none _ | refine LeO.ite ?_ ?_ | refine LeO.bind ?_ (fun _ => ?_))
        | exact LeO.none _ | refine LeO.ite ?_ ?_ | refine LeO.bind ?_ (fun _ => ?_)
theorem impl_asks.mono : ∀ a0 a1 k, LeO (impl_asks.f k a0 a1) (impl_asks.f (k + 1) a0 a1) := by
  intro a0 a1 k
  have ih0 := impl_asks.mono_l k
  unfold impl_asks.f
  repeat' first
    | (with_reducible first | exact ih0 .. | exact LeO.refl _ | exact LeO.none _ | refine LeO.ite ?_ ?_ | refine LeO.bind ?_ (fun _ => ?_))
    | exact LeO.none _ | refine LeO.ite ?_ ?_ | refine LeO.bind ?_ (fun _ => ?_)
set_option maxHeartbeats 2000000 in
set_option maxRecDepth 100000 in
theorem impl_asks.calls (k : Nat) (a0_0 : Int) (A0_1 : Option Addr) (c0_1 : Nat) (l0_1 : List Int) (r : Int) (w : World) (hr0_1 : Kd.C (Kd.int .i64) w A0_1 l0_1.length l0_1) (hc0_1 : l0_1.length ≤ c0_1) (h : impl_asks.f k a0_0 l0_1 = some r) :
    Calls Tryd.prog 74 #[.agg #[.int .i64 a0_0, .slice A0_1 l0_1.length c0_1]] w fun e w' => e = .returned (.int .u32 r) ∧ Below w.heap.size w w' := by
  have hu39 := Tryd.underlying39
  have HR0_1 := Aside0.mk hr0_1
  have HC0_1 := Aside0.mk hc0_1
  clear hr0_1 hc0_1
  have HB := Aside0.mk (Below.refl w.heap.size w)
  unfold impl_asks.f at h
  have H := h
  clear h
  have H' := Aside0.mk H
  clear H
  go_enter Tryd.func74, Tryd.ntmps74
  go_wp2_with (first | ((with_reducible refine gd 1 ?_); refine bx 1 39 #[.int .i64 a0_0, .slice A0_1 l0_1.length c0_1] ?_; clear HB; intro gb251 w2 hg BK251 hb GE251 HB; clear hb hg; obtain ⟨z3_0, z3_1⟩ := ca2 BK251; obtain ⟨f3_0, f3_1⟩ := fa2 BK251))
  go_loopg [3, 9] k (fun kq v3 v9 w' => ∃ (x3_1 : Int) (x9_1 : Int), v3 = .int .u32 x3_1 ∧ v9 = .int .i64 x9_1 ∧ Aside0 (impl_asks.l0 kq x3_1 l0_1 (l0_1.length : Int) x9_1 a0_0 l0_1 = some r) ∧ Aside0 (kq ≤ k) ∧ Aside0 (w'.heap[gb251]? = some (.cells #[.int .i64 a0_0, (.slice A0_1 l0_1.length c0_1)] 39 (0, 0))) ∧ Aside0 (Below w.heap.size w w'))
  case atStart => exact ⟨(0), (0), ev, ev, H', ⟨Nat.le_refl _⟩, ⟨bk BK251⟩, ⟨bw⟩⟩
  case round =>
    clear H'
    (try clear z3_0 z3_1)
    (try clear f3_0 f3_1)
    obtain ⟨x3_1, x9_1, rfl, rfl, HA, HK1, BK251, HB⟩ := hrel
    cases gk with
    | zero => exact absurd HA.out (by simp [impl_asks.l0])
    | succ k1 =>
      have H := HA.out
      clear HA
      simp only [impl_asks.l0] at H
      replace H := ilt H
      rcases H with ⟨c4b0, H⟩ | ⟨c4b0, H⟩
      · by_cases c5 : 0 ≤ x9_1
        · rw [if_pos c5] at H
          have c5b0 : decide (0 ≤ x9_1) = true := decide_eq_true c5
          clear c5
          by_cases c6 : x9_1 < (l0_1.length : Int)
          · rw [if_pos c6] at H
            have c6b0 : decide (x9_1 < (l0_1.length : Int)) = true := decide_eq_true c6
            clear c6
            replace H := ieq H
            rcases H with ⟨c7b0, c7b1, H⟩ | ⟨c7, c7b0, c7b1, H⟩
            · replace H := igt H
              rcases H with ⟨c8b0, H⟩ | ⟨c8b0, H⟩
              · have c9b0 := eq_true (of_decide_eq_true as_ : 0 ≤ x9_1)
                obtain ⟨ji10, hji10⟩ : ∃ j_ : Int, (shl .u32 1 x9_1) = j_ := ⟨_, rfl⟩
                first | rw [hji10] at H | simp only [hji10] at H
                have hji10_ : (IntKind.u32.wrap (1 * 2 ^ min x9_1.toNat 32)) = ji10 := hji10
                have hji10z : x9_1 ≤ 32 → (IntKind.u32.wrap (1 * 2 ^ x9_1.toNat)) = ji10 := shl_small hji10
                have hji10u : (IntKind.u32.wrap (2 ^ min x9_1.toNat 32)) = ji10 := by have h_ := hji10_; rw [Int.one_mul] at h_; exact h_
                have hji10v : x9_1 ≤ 32 → (IntKind.u32.wrap (2 ^ x9_1.toNat)) = ji10 := fun hle_ => by have h_ := hji10z hle_; rw [Int.one_mul] at h_; exact h_
                have H' := Aside0.mk H
                clear H
                have p252 : 0 ≤ (x9_1 : Int) := of_decide_eq_true as_
                have q252 : x9_1 < (l0_1.length : Int) := of_decide_eq_true as_
                obtain ⟨ad252, e252, hx252_0⟩ := Kd.at_int HR0_1.out x9_1 p252 q252
                cases e252
                replace hx252_0 := cl HB hx252_0
                replace p252 := eq_true p252
                replace q252 := eq_true q252
                obtain ⟨z11_0, z11_1⟩ := ca2 BK251
                obtain ⟨f11_0, f11_1⟩ := fa2 BK251
                go_wp2
                go_roundg k1
                case measure => have := HK1.out; omega
                case rel => exact ⟨(Go.bits .or .u32 x3_1 (ji10)), (wrap64 (x9_1 + 1)), (by first | rfl | (simp; done) | (simp only [← hji10] <;> (first | rfl | (rw [shl_one_]; done) | simp)) | (simp [*]; done)), ev, H', ⟨oa HK1⟩, ⟨bk BK251⟩, ⟨bw⟩⟩
              · replace H := ieq H
                rcases H with ⟨c12b0, c12b1, H⟩ | ⟨c12, c12b0, c12b1, H⟩
                · replace H := ige H
                  rcases H with ⟨c13b0, H⟩ | ⟨c13b0, H⟩
                  · have c14b0 := eq_true (of_decide_eq_true as_ : 0 ≤ x9_1)
                    obtain ⟨ji15, hji15⟩ : ∃ j_ : Int, (shl .u32 1 x9_1) = j_ := ⟨_, rfl⟩
                    first | rw [hji15] at H | simp only [hji15] at H
                    have hji15_ : (IntKind.u32.wrap (1 * 2 ^ min x9_1.toNat 32)) = ji15 := hji15
                    have hji15z : x9_1 ≤ 32 → (IntKind.u32.wrap (1 * 2 ^ x9_1.toNat)) = ji15 := shl_small hji15
                    have hji15u : (IntKind.u32.wrap (2 ^ min x9_1.toNat 32)) = ji15 := by have h_ := hji15_; rw [Int.one_mul] at h_; exact h_
                    have hji15v : x9_1 ≤ 32 → (IntKind.u32.wrap (2 ^ x9_1.toNat)) = ji15 := fun hle_ => by have h_ := hji15z hle_; rw [Int.one_mul] at h_; exact h_
                    have H' := Aside0.mk H
                    clear H
                    have p252 : 0 ≤ (x9_1 : Int) := of_decide_eq_true as_
                    have q252 : x9_1 < (l0_1.length : Int) := of_decide_eq_true as_
                    obtain ⟨ad252, e252, hx252_0⟩ := Kd.at_int HR0_1.out x9_1 p252 q252
                    cases e252
                    replace hx252_0 := cl HB hx252_0
                    replace p252 := eq_true p252
                    replace q252 := eq_true q252
                    obtain ⟨z16_0, z16_1⟩ := ca2 BK251
                    obtain ⟨f16_0, f16_1⟩ := fa2 BK251
                    go_wp2
                    go_roundg k1
                    case measure => have := HK1.out; omega
                    case rel => exact ⟨(Go.bits .or .u32 x3_1 (ji15)), (wrap64 (x9_1 + 1)), (by first | rfl | (simp; done) | (simp only [← hji15] <;> (first | rfl | (rw [shl_one_]; done) | simp)) | (simp [*]; done)), ev, H', ⟨oa HK1⟩, ⟨bk BK251⟩, ⟨bw⟩⟩
                  · have H' := Aside0.mk H
                    clear H
                    have p252 : 0 ≤ (x9_1 : Int) := of_decide_eq_true as_
                    have q252 : x9_1 < (l0_1.length : Int) := of_decide_eq_true as_
                    obtain ⟨ad252, e252, hx252_0⟩ := Kd.at_int HR0_1.out x9_1 p252 q252
                    cases e252
                    replace hx252_0 := cl HB hx252_0
                    replace p252 := eq_true p252
                    replace q252 := eq_true q252
                    obtain ⟨z17_0, z17_1⟩ := ca2 BK251
                    obtain ⟨f17_0, f17_1⟩ := fa2 BK251
                    go_wp2
                    go_roundg k1
                    case measure => have := HK1.out; omega
                    case rel => exact ⟨(x3_1), (wrap64 (x9_1 + 1)), ev, ev, H', ⟨oa HK1⟩, ⟨bk BK251⟩, ⟨bw⟩⟩
                · have H' := Aside0.mk H
                  clear H
                  have p252 : 0 ≤ (x9_1 : Int) := of_decide_eq_true as_
                  have q252 : x9_1 < (l0_1.length : Int) := of_decide_eq_true as_
                  obtain ⟨ad252, e252, hx252_0⟩ := Kd.at_int HR0_1.out x9_1 p252 q252
                  cases e252
                  replace hx252_0 := cl HB hx252_0
                  replace p252 := eq_true p252
                  replace q252 := eq_true q252
                  obtain ⟨z18_0, z18_1⟩ := ca2 BK251
                  obtain ⟨f18_0, f18_1⟩ := fa2 BK251
                  go_wp2
                  go_roundg k1
                  case measure => have := HK1.out; omega
                  case rel => exact ⟨(x3_1), (wrap64 (x9_1 + 1)), ev, ev, H', ⟨oa HK1⟩, ⟨bk BK251⟩, ⟨bw⟩⟩
            · replace H := ieq H
              rcases H with ⟨c19b0, c19b1, H⟩ | ⟨c19, c19b0, c19b1, H⟩
              · replace H := ige H
                rcases H with ⟨c20b0, H⟩ | ⟨c20b0, H⟩
                · have c21b0 := eq_true (of_decide_eq_true as_ : 0 ≤ x9_1)
                  obtain ⟨ji22, hji22⟩ : ∃ j_ : Int, (shl .u32 1 x9_1) = j_ := ⟨_, rfl⟩
                  first | rw [hji22] at H | simp only [hji22] at H
                  have hji22_ : (IntKind.u32.wrap (1 * 2 ^ min x9_1.toNat 32)) = ji22 := hji22
                  have hji22z : x9_1 ≤ 32 → (IntKind.u32.wrap (1 * 2 ^ x9_1.toNat)) = ji22 := shl_small hji22
                  have hji22u : (IntKind.u32.wrap (2 ^ min x9_1.toNat 32)) = ji22 := by have h_ := hji22_; rw [Int.one_mul] at h_; exact h_
                  have hji22v : x9_1 ≤ 32 → (IntKind.u32.wrap (2 ^ x9_1.toNat)) = ji22 := fun hle_ => by have h_ := hji22z hle_; rw [Int.one_mul] at h_; exact h_
                  have H' := Aside0.mk H
                  clear H
                  have p252 : 0 ≤ (x9_1 : Int) := of_decide_eq_true as_
                  have q252 : x9_1 < (l0_1.length : Int) := of_decide_eq_true as_
                  obtain ⟨ad252, e252, hx252_0⟩ := Kd.at_int HR0_1.out x9_1 p252 q252
                  cases e252
                  replace hx252_0 := cl HB hx252_0
                  replace p252 := eq_true p252
                  replace q252 := eq_true q252
                  obtain ⟨z23_0, z23_1⟩ := ca2 BK251
                  obtain ⟨f23_0, f23_1⟩ := fa2 BK251
                  go_wp2
                  go_roundg k1
                  case measure => have := HK1.out; omega
                  case rel => exact ⟨(Go.bits .or .u32 x3_1 (ji22)), (wrap64 (x9_1 + 1)), (by first | rfl | (simp; done) | (simp only [← hji22] <;> (first | rfl | (rw [shl_one_]; done) | simp)) | (simp [*]; done)), ev, H', ⟨oa HK1⟩, ⟨bk BK251⟩, ⟨bw⟩⟩
                · have H' := Aside0.mk H
                  clear H
                  have p252 : 0 ≤ (x9_1 : Int) := of_decide_eq_true as_
                  have q252 : x9_1 < (l0_1.length : Int) := of_decide_eq_true as_
                  obtain ⟨ad252, e252, hx252_0⟩ := Kd.at_int HR0_1.out x9_1 p252 q252
                  cases e252
                  replace hx252_0 := cl HB hx252_0
                  replace p252 := eq_true p252
                  replace q252 := eq_true q252
                  obtain ⟨z24_0, z24_1⟩ := ca2 BK251
                  obtain ⟨f24_0, f24_1⟩ := fa2 BK251
                  go_wp2
                  go_roundg k1
                  case measure => have := HK1.out; omega
                  case rel => exact ⟨(x3_1), (wrap64 (x9_1 + 1)), ev, ev, H', ⟨oa HK1⟩, ⟨bk BK251⟩, ⟨bw⟩⟩
              · have H' := Aside0.mk H
                clear H
                have p252 : 0 ≤ (x9_1 : Int) := of_decide_eq_true as_
                have q252 : x9_1 < (l0_1.length : Int) := of_decide_eq_true as_
                obtain ⟨ad252, e252, hx252_0⟩ := Kd.at_int HR0_1.out x9_1 p252 q252
                cases e252
                replace hx252_0 := cl HB hx252_0
                replace p252 := eq_true p252
                replace q252 := eq_true q252
                obtain ⟨z25_0, z25_1⟩ := ca2 BK251
                obtain ⟨f25_0, f25_1⟩ := fa2 BK251
                go_wp2
                go_roundg k1
                case measure => have := HK1.out; omega
                case rel => exact ⟨(x3_1), (wrap64 (x9_1 + 1)), ev, ev, H', ⟨oa HK1⟩, ⟨bk BK251⟩, ⟨bw⟩⟩
          · rw [if_neg c6] at H
            exact absurd H (by simp)
        · rw [if_neg c5] at H
          exact absurd H (by simp)
      · obtain rfl := Option.some.inj H
        go_wp2
        go_ret
        exact ⟨rt, bw⟩

end Go.Proofs.YtfhcnnkeokjfpaaDoor.PB1
