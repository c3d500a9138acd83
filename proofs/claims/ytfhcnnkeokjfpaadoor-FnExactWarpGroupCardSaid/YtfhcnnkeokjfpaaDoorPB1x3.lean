/- What functions of the program compute, each as a Lean function, and that the run comes to just that. Conditions: none. (Laid by this session's own program.) -/
import Derived.Test.YtfhcnnkeokjfpaaDoorT
import Derived.Test.YtfhcnnkeokjfpaaDoorPB1x0
namespace Go.Proofs.YtfhcnnkeokjfpaaDoor.PB1
open Go.RowKit Go.Proofs.YtfhcnnkeokjfpaaDoorW.PrintWords Go.Proofs.YtfhcnnkeokjfpaaDoorW.PrintLast Go.Proofs.YtfhcnnkeokjfpaaDoorW.PrintMore Go.Proofs.YtfhcnnkeokjfpaaDoor.T
attribute [local go_sem] max2_int min2_int max_two min_two max_three min_three max_four min_four   -- for this text's walks alone
set_option linter.unusedVariables false
set_option linter.unusedSimpArgs false

/-! ### spec_ReqOk: function 33 -/
mutual
def spec_ReqOk.j0 : Nat → Bool → Int → List Int → Option (Bool)
  | 0, _, _, _ => none
  | k + 1, x18, x126000, x126001 => if x18 = true then (some false) else (spec_ReqOk.l0 k 0 x126000 x126001)
def spec_ReqOk.l0 : Nat → Int → Int → List Int → Option (Bool)
  | 0, _, _, _ => none
  | k + 1, x3, x126000, x126001 => if x3 < (x126001.length : Int) then (if 0 ≤ x3 then (if x126000 = 1 then (if (rd x126001 x3) < 0 then (some false) else (if (rd x126001 x3) > 256 then (some false) else (if x126000 = 2 then (if (rd x126001 x3) < (-1) then (some false) else (if (rd x126001 x3) > 4095 then (some false) else (spec_ReqOk.l0 k (wrap64 (x3 + 1)) x126000 x126001))) else (spec_ReqOk.l0 k (wrap64 (x3 + 1)) x126000 x126001)))) else (if x126000 = 2 then (if (rd x126001 x3) < (-1) then (some false) else (if (rd x126001 x3) > 4095 then (some false) else (spec_ReqOk.l0 k (wrap64 (x3 + 1)) x126000 x126001))) else (spec_ReqOk.l0 k (wrap64 (x3 + 1)) x126000 x126001))) else (none)) else (some true)
end
def spec_ReqOk.f (k : Nat) (a0_0 : Int) (l0_1 : List Int) : Option (Bool) := if (l0_1.length : Int) = 8 then (if a0_0 = 1 then (spec_ReqOk.j0 k false a0_0 l0_1) else (spec_ReqOk.j0 k (a0_0 != 2) a0_0 l0_1)) else (spec_ReqOk.j0 k true a0_0 l0_1)
theorem spec_ReqOk.mono_l : ∀ k, (∀ y0 y1 y2, LeO (spec_ReqOk.j0 k y0 y1 y2) (spec_ReqOk.j0 (k + 1) y0 y1 y2)) ∧ (∀ y0 y1 y2, LeO (spec_ReqOk.l0 k y0 y1 y2) (spec_ReqOk.l0 (k + 1) y0 y1 y2))
  | 0 => ⟨fun _ _ _ r h => by simp [spec_ReqOk.j0] at h, fun _ _ _ r h => by simp [spec_ReqOk.l0] at h⟩
  | k + 1 => by
    obtain ⟨ih0, ih1⟩ := spec_ReqOk.mono_l k
    refine ⟨?_, ?_⟩
    · intro y0 y1 y2
      unfold spec_ReqOk.j0
      repeat' first
        | (with_reducible first | exact ih0 .. | exact ih1 .. | exact LeO.refl _ | exact LeO.none _ | refine LeO.ite ?_ ?_ | refine LeO.bind ?_ (fun _ => ?_))
        | exact LeO.none _ | refine LeO.ite ?_ ?_ | refine LeO.bind ?_ (fun _ => ?_)
    · intro y0 y1 y2
      unfold spec_ReqOk.l0
      repeat' first
        | (with_reducible first | exact ih0 .. | exact ih1 .. | exact LeO.refl _ | exact LeO.none _ | refine LeO.ite ?_ ?_ | refine LeO.bind ?_ (fun _ => ?_))
        | exact LeO.none _ | refine LeO.ite ?_ ?_ | refine LeO.bind ?_ (fun _ => ?_)
theorem spec_ReqOk.mono : ∀ a0 a1 k, LeO (spec_ReqOk.f k a0 a1) (spec_ReqOk.f (k + 1) a0 a1) := by
  intro a0 a1 k
  obtain ⟨ih0, ih1⟩ := spec_ReqOk.mono_l k
  unfold spec_ReqOk.f
  repeat' first
    | (with_reducible first | exact ih0 .. | exact ih1 .. | exact LeO.refl _ | exact LeO.none _ | refine LeO.ite ?_ ?_ | refine LeO.bind ?_ (fun _ => ?_))
    | exact LeO.none _ | refine LeO.ite ?_ ?_ | refine LeO.bind ?_ (fun _ => ?_)
set_option maxHeartbeats 2000000 in
set_option maxRecDepth 100000 in
theorem spec_ReqOk.calls (k : Nat) (a0_0 : Int) (A0_1 : Option Addr) (c0_1 : Nat) (l0_1 : List Int) (r : Bool) (w : World) (hr0_1 : Kd.C (Kd.int .i64) w A0_1 l0_1.length l0_1) (hc0_1 : l0_1.length ≤ c0_1) (h : spec_ReqOk.f k a0_0 l0_1 = some r) :
    Calls Tryd.prog 33 #[.agg #[.int .i64 a0_0, .slice A0_1 l0_1.length c0_1]] w fun e w' => e = .returned (.bool r) ∧ Below w.heap.size w w' := by
  have hu39 := Tryd.underlying39
  have HR0_1 := Aside0.mk hr0_1
  have HC0_1 := Aside0.mk hc0_1
  clear hr0_1 hc0_1
  have HB := Aside0.mk (Below.refl w.heap.size w)
  unfold spec_ReqOk.f at h
  have H := h
  clear h
  have HC2 := Aside0.mk H
  clear H
  go_enter Tryd.func33, Tryd.ntmps33
  go_upto_region 1 with (first | ((with_reducible refine gd 1 ?_); refine bx 1 39 #[.int .i64 a0_0, .slice A0_1 l0_1.length c0_1] ?_; clear HB; intro gb125 w3 hg BK125 hb GE125 HB; clear hb hg))
  (try refine ap ?_)
  go_cut [18] (fun v18 wc => ∃ (kq : Nat) (x18_1 : Bool), v18 = .bool x18_1 ∧ Aside0 (spec_ReqOk.j0 kq x18_1 a0_0 l0_1 = some r) ∧ Aside0 (kq ≤ k) ∧ Aside0 (wc.heap[gb125]? = some (.cells #[.int .i64 a0_0, (.slice A0_1 l0_1.length c0_1)] 39 (0, 0))) ∧ Aside0 (Below w.heap.size w wc))
  case first =>
    have H := HC2.out
    clear HC2
    by_cases c4 : (l0_1.length : Int) = 8
    · rw [if_pos c4] at H
      have c4b0 : ((l0_1.length : Int) == 8) = true := beq_iff_eq.mpr c4
      have c4b1 : ((l0_1.length : Int) != 8) = false := bne_eq_false_iff_eq.mpr c4
      clear c4
      (first | rw [c4b0] | (simp only [i64_w, i32_w]; rw [c4b0]) | (simp only [c4b2, Bool.not_true, Bool.not_false]) | (simp only [c4b1, Bool.not_true, Bool.not_false]) | skip)
      replace H := ieq H
      rcases H with ⟨c5b0, c5b1, H⟩ | ⟨c5, c5b0, c5b1, H⟩
      · have H' := Aside0.mk H
        clear H
        obtain ⟨z6_0, z6_1⟩ := ca2 BK125
        obtain ⟨f6_0, f6_1⟩ := fa2 BK125
        go_wp2
        go_meet
        case rel => exact ⟨_, (false), ev, H', ⟨om⟩, ⟨bk BK125⟩, ⟨bw⟩⟩
      · have H' := Aside0.mk H
        clear H
        obtain ⟨z7_0, z7_1⟩ := ca2 BK125
        obtain ⟨f7_0, f7_1⟩ := fa2 BK125
        go_wp2
        go_meet
        case rel => exact ⟨_, ((a0_0 != 2)), ev, H', ⟨om⟩, ⟨bk BK125⟩, ⟨bw⟩⟩
    · rw [if_neg c4] at H
      have c4b0 : ((l0_1.length : Int) == 8) = false := beq_eq_false_iff_ne.mpr c4
      have c4b1 : ((l0_1.length : Int) != 8) = true := bne_iff_ne.mpr c4
      (first | rw [c4b0] | (simp only [i64_w, i32_w]; rw [c4b0]) | (simp only [c4b2, Bool.not_true, Bool.not_false]) | (simp only [c4b1, Bool.not_true, Bool.not_false]) | skip)
      have H' := Aside0.mk H
      clear H
      obtain ⟨z8_0, z8_1⟩ := ca2 BK125
      obtain ⟨f8_0, f8_1⟩ := fa2 BK125
      go_wp2
      go_meet
      case rel => exact ⟨_, (true), ev, H', ⟨om⟩, ⟨bk BK125⟩, ⟨bw⟩⟩
  case rest =>
    clear HC2
    obtain ⟨kq, x18_1, rfl, HA, HJ1, BK125, HB⟩ := hcut
    cases kq with
    | zero => exact absurd HA.out (by simp [spec_ReqOk.j0])
    | succ kj1 =>
      have H := HA.out
      clear HA
      simp only [spec_ReqOk.j0] at H
      replace H := ib H
      rcases H with ⟨rfl, H⟩ | ⟨rfl, H⟩
      · obtain rfl := Option.some.inj H
        go_wp2
        go_ret
        exact ⟨rt, bw⟩
      · have H' := Aside0.mk H
        clear H
        go_wp2
        go_loopg [3] kj1 (fun kq v3 w' => ∃ (x3_2 : Int), v3 = .int .i64 x3_2 ∧ Aside0 (spec_ReqOk.l0 kq x3_2 a0_0 l0_1 = some r) ∧ Aside0 (kq ≤ kj1) ∧ Aside0 (w'.heap[gb125]? = some (.cells #[.int .i64 a0_0, (.slice A0_1 l0_1.length c0_1)] 39 (0, 0))) ∧ Aside0 (Below w.heap.size w w'))
        case atStart => exact ⟨(0), ev, H', ⟨Nat.le_refl _⟩, ⟨bk BK125⟩, ⟨bw⟩⟩
        case round =>
          clear H'
          try clear c9
          obtain ⟨x3_2, rfl, HA, HK2, BK125, HB⟩ := hrel
          cases gk with
          | zero => exact absurd HA.out (by simp [spec_ReqOk.l0])
          | succ k2 =>
            have H := HA.out
            clear HA
            simp only [spec_ReqOk.l0] at H
            replace H := ilt H
            rcases H with ⟨c10b0, H⟩ | ⟨c10b0, H⟩
            · by_cases c11 : 0 ≤ x3_2
              · rw [if_pos c11] at H
                have c11b0 : decide (0 ≤ x3_2) = true := decide_eq_true c11
                clear c11
                replace H := ieq H
                rcases H with ⟨c12b0, c12b1, H⟩ | ⟨c12, c12b0, c12b1, H⟩
                · replace H := ilt H
                  rcases H with ⟨c13b0, H⟩ | ⟨c13b0, H⟩
                  · obtain rfl := Option.some.inj H
                    obtain ⟨z14_0, z14_1⟩ := ca2 BK125
                    obtain ⟨f14_0, f14_1⟩ := fa2 BK125
                    have p126 : 0 ≤ (x3_2 : Int) := of_decide_eq_true as_
                    have q126 : x3_2 < (l0_1.length : Int) := of_decide_eq_true as_
                    obtain ⟨ad126, e126, hx126_0⟩ := Kd.at_int HR0_1.out x3_2 p126 q126
                    cases e126
                    replace hx126_0 := cl HB hx126_0
                    replace p126 := eq_true p126
                    replace q126 := eq_true q126
                    go_wp2
                    go_ret
                    exact ⟨rt, bw⟩
                  · replace H := igt H
                    rcases H with ⟨c15b0, H⟩ | ⟨c15b0, H⟩
                    · obtain rfl := Option.some.inj H
                      obtain ⟨z16_0, z16_1⟩ := ca2 BK125
                      obtain ⟨f16_0, f16_1⟩ := fa2 BK125
                      have p126 : 0 ≤ (x3_2 : Int) := of_decide_eq_true as_
                      have q126 : x3_2 < (l0_1.length : Int) := of_decide_eq_true as_
                      obtain ⟨ad126, e126, hx126_0⟩ := Kd.at_int HR0_1.out x3_2 p126 q126
                      cases e126
                      replace hx126_0 := cl HB hx126_0
                      replace p126 := eq_true p126
                      replace q126 := eq_true q126
                      go_wp2
                      go_ret
                      exact ⟨rt, bw⟩
                    · replace H := ieq H
                      rcases H with ⟨c17b0, c17b1, H⟩ | ⟨c17, c17b0, c17b1, H⟩
                      · replace H := ilt H
                        rcases H with ⟨c18b0, H⟩ | ⟨c18b0, H⟩
                        · obtain rfl := Option.some.inj H
                          obtain ⟨z19_0, z19_1⟩ := ca2 BK125
                          obtain ⟨f19_0, f19_1⟩ := fa2 BK125
                          have p126 : 0 ≤ (x3_2 : Int) := of_decide_eq_true as_
                          have q126 : x3_2 < (l0_1.length : Int) := of_decide_eq_true as_
                          obtain ⟨ad126, e126, hx126_0⟩ := Kd.at_int HR0_1.out x3_2 p126 q126
                          cases e126
                          replace hx126_0 := cl HB hx126_0
                          replace p126 := eq_true p126
                          replace q126 := eq_true q126
                          go_wp2
                          go_ret
                          exact ⟨rt, bw⟩
                        · replace H := igt H
                          rcases H with ⟨c20b0, H⟩ | ⟨c20b0, H⟩
                          · obtain rfl := Option.some.inj H
                            obtain ⟨z21_0, z21_1⟩ := ca2 BK125
                            obtain ⟨f21_0, f21_1⟩ := fa2 BK125
                            have p126 : 0 ≤ (x3_2 : Int) := of_decide_eq_true as_
                            have q126 : x3_2 < (l0_1.length : Int) := of_decide_eq_true as_
                            obtain ⟨ad126, e126, hx126_0⟩ := Kd.at_int HR0_1.out x3_2 p126 q126
                            cases e126
                            replace hx126_0 := cl HB hx126_0
                            replace p126 := eq_true p126
                            replace q126 := eq_true q126
                            go_wp2
                            go_ret
                            exact ⟨rt, bw⟩
                          · have H' := Aside0.mk H
                            clear H
                            obtain ⟨z22_0, z22_1⟩ := ca2 BK125
                            obtain ⟨f22_0, f22_1⟩ := fa2 BK125
                            have p126 : 0 ≤ (x3_2 : Int) := of_decide_eq_true as_
                            have q126 : x3_2 < (l0_1.length : Int) := of_decide_eq_true as_
                            obtain ⟨ad126, e126, hx126_0⟩ := Kd.at_int HR0_1.out x3_2 p126 q126
                            cases e126
                            replace hx126_0 := cl HB hx126_0
                            replace p126 := eq_true p126
                            replace q126 := eq_true q126
                            go_wp2
                            go_roundg k2
                            case measure => have := HJ1.out; have := HK2.out; omega
                            case rel => exact ⟨(wrap64 (x3_2 + 1)), ev, H', ⟨by have := HJ1.out; have := HK2.out; omega⟩, ⟨bk BK125⟩, ⟨bw⟩⟩
                      · have H' := Aside0.mk H
                        clear H
                        obtain ⟨z23_0, z23_1⟩ := ca2 BK125
                        obtain ⟨f23_0, f23_1⟩ := fa2 BK125
                        have p126 : 0 ≤ (x3_2 : Int) := of_decide_eq_true as_
                        have q126 : x3_2 < (l0_1.length : Int) := of_decide_eq_true as_
                        obtain ⟨ad126, e126, hx126_0⟩ := Kd.at_int HR0_1.out x3_2 p126 q126
                        cases e126
                        replace hx126_0 := cl HB hx126_0
                        replace p126 := eq_true p126
                        replace q126 := eq_true q126
                        go_wp2
                        go_roundg k2
                        case measure => have := HJ1.out; have := HK2.out; omega
                        case rel => exact ⟨(wrap64 (x3_2 + 1)), ev, H', ⟨by have := HJ1.out; have := HK2.out; omega⟩, ⟨bk BK125⟩, ⟨bw⟩⟩
                · replace H := ieq H
                  rcases H with ⟨c24b0, c24b1, H⟩ | ⟨c24, c24b0, c24b1, H⟩
                  · replace H := ilt H
                    rcases H with ⟨c25b0, H⟩ | ⟨c25b0, H⟩
                    · obtain rfl := Option.some.inj H
                      obtain ⟨z26_0, z26_1⟩ := ca2 BK125
                      obtain ⟨f26_0, f26_1⟩ := fa2 BK125
                      have p126 : 0 ≤ (x3_2 : Int) := of_decide_eq_true as_
                      have q126 : x3_2 < (l0_1.length : Int) := of_decide_eq_true as_
                      obtain ⟨ad126, e126, hx126_0⟩ := Kd.at_int HR0_1.out x3_2 p126 q126
                      cases e126
                      replace hx126_0 := cl HB hx126_0
                      replace p126 := eq_true p126
                      replace q126 := eq_true q126
                      go_wp2
                      go_ret
                      exact ⟨rt, bw⟩
                    · replace H := igt H
                      rcases H with ⟨c27b0, H⟩ | ⟨c27b0, H⟩
                      · obtain rfl := Option.some.inj H
                        obtain ⟨z28_0, z28_1⟩ := ca2 BK125
                        obtain ⟨f28_0, f28_1⟩ := fa2 BK125
                        have p126 : 0 ≤ (x3_2 : Int) := of_decide_eq_true as_
                        have q126 : x3_2 < (l0_1.length : Int) := of_decide_eq_true as_
                        obtain ⟨ad126, e126, hx126_0⟩ := Kd.at_int HR0_1.out x3_2 p126 q126
                        cases e126
                        replace hx126_0 := cl HB hx126_0
                        replace p126 := eq_true p126
                        replace q126 := eq_true q126
                        go_wp2
                        go_ret
                        exact ⟨rt, bw⟩
                      · have H' := Aside0.mk H
                        clear H
                        obtain ⟨z29_0, z29_1⟩ := ca2 BK125
                        obtain ⟨f29_0, f29_1⟩ := fa2 BK125
                        have p126 : 0 ≤ (x3_2 : Int) := of_decide_eq_true as_
                        have q126 : x3_2 < (l0_1.length : Int) := of_decide_eq_true as_
                        obtain ⟨ad126, e126, hx126_0⟩ := Kd.at_int HR0_1.out x3_2 p126 q126
                        cases e126
                        replace hx126_0 := cl HB hx126_0
                        replace p126 := eq_true p126
                        replace q126 := eq_true q126
                        go_wp2
                        go_roundg k2
                        case measure => have := HJ1.out; have := HK2.out; omega
                        case rel => exact ⟨(wrap64 (x3_2 + 1)), ev, H', ⟨by have := HJ1.out; have := HK2.out; omega⟩, ⟨bk BK125⟩, ⟨bw⟩⟩
                  · have H' := Aside0.mk H
                    clear H
                    obtain ⟨z30_0, z30_1⟩ := ca2 BK125
                    obtain ⟨f30_0, f30_1⟩ := fa2 BK125
                    have p126 : 0 ≤ (x3_2 : Int) := of_decide_eq_true as_
                    have q126 : x3_2 < (l0_1.length : Int) := of_decide_eq_true as_
                    obtain ⟨ad126, e126, hx126_0⟩ := Kd.at_int HR0_1.out x3_2 p126 q126
                    cases e126
                    replace hx126_0 := cl HB hx126_0
                    replace p126 := eq_true p126
                    replace q126 := eq_true q126
                    go_wp2
                    go_roundg k2
                    case measure => have := HJ1.out; have := HK2.out; omega
                    case rel => exact ⟨(wrap64 (x3_2 + 1)), ev, H', ⟨by have := HJ1.out; have := HK2.out; omega⟩, ⟨bk BK125⟩, ⟨bw⟩⟩
              · rw [if_neg c11] at H
                exact absurd H (by simp)
            · obtain rfl := Option.some.inj H
              obtain ⟨z31_0, z31_1⟩ := ca2 BK125
              obtain ⟨f31_0, f31_1⟩ := fa2 BK125
              go_wp2
              go_ret
              exact ⟨rt, bw⟩

/-! ### spec_l07Asks: function 34 -/
def spec_l07Asks.l0 : Nat → Int → List Int → List Int → Int → Option (List Int)
  | 0, _, _, _, _ => none
  | k + 1, x0, x1, x5, x6 => if x6 < (x1.length : Int) then (if x0 = 1 then (if 0 ≤ x6 then (if (rd x1 x6) > 0 then (if x5.length < 17592186044416 then (spec_l07Asks.l0 k x0 x1 (x5 ++ [x6]) (wrap64 (x6 + 1))) else (none)) else (if x0 = 2 then (if (rd x1 x6) ≥ 0 then (if x5.length < 17592186044416 then (spec_l07Asks.l0 k x0 x1 (x5 ++ [x6]) (wrap64 (x6 + 1))) else (none)) else (spec_l07Asks.l0 k x0 x1 x5 (wrap64 (x6 + 1)))) else (spec_l07Asks.l0 k x0 x1 x5 (wrap64 (x6 + 1))))) else (none)) else (if x0 = 2 then (if 0 ≤ x6 then (if (rd x1 x6) ≥ 0 then (if x5.length < 17592186044416 then (spec_l07Asks.l0 k x0 x1 (x5 ++ [x6]) (wrap64 (x6 + 1))) else (none)) else (spec_l07Asks.l0 k x0 x1 x5 (wrap64 (x6 + 1)))) else (none)) else (spec_l07Asks.l0 k x0 x1 x5 (wrap64 (x6 + 1))))) else (some x5)
def spec_l07Asks.f (k : Nat) (a0 : Int) (l1 : List Int) : Option (List Int) := spec_l07Asks.l0 k a0 l1 (([] : List Int)) 0
theorem spec_l07Asks.mono_l : ∀ k, (∀ y0 y1 y2 y3, LeO (spec_l07Asks.l0 k y0 y1 y2 y3) (spec_l07Asks.l0 (k + 1) y0 y1 y2 y3))
  | 0 => fun _ _ _ _ r h => by simp [spec_l07Asks.l0] at h
  | k + 1 => by
    have ih0 := spec_l07Asks.mono_l k
    · intro y0 y1 y2 y3
      unfold spec_l07Asks.l0
      repeat' first
        | (with_reducible first | exact ih0 .. | exact LeO.refl _ | exact LeO.none _ | refine LeO.ite ?_ ?_ | refine LeO.bind ?_ (fun _ => ?_))
        | exact LeO.none _ | refine LeO.ite ?_ ?_ | refine LeO.bind ?_ (fun _ => ?_)
theorem spec_l07Asks.mono : ∀ a0 a1 k, LeO (spec_l07Asks.f k a0 a1) (spec_l07Asks.f (k + 1) a0 a1) := by
  intro a0 a1 k
  have ih0 := spec_l07Asks.mono_l k
  unfold spec_l07Asks.f
  repeat' first
    | (with_reducible first | exact ih0 .. | exact LeO.refl _ | exact LeO.none _ | refine LeO.ite ?_ ?_ | refine LeO.bind ?_ (fun _ => ?_))
    | exact LeO.none _ | refine LeO.ite ?_ ?_ | refine LeO.bind ?_ (fun _ => ?_)
set_option maxHeartbeats 2000000 in
set_option maxRecDepth 100000 in
theorem spec_l07Asks.calls (k : Nat) (a0 : Int) (A1 : Option Addr) (c1 : Nat) (l1 : List Int) (r : List Int) (w : World) (hr1 : Kd.C (Kd.int .i64) w A1 l1.length l1) (hc1 : l1.length ≤ c1) (h : spec_l07Asks.f k a0 l1 = some r) :
    Calls Tryd.prog 34 #[.int .i64 a0, .slice A1 l1.length c1] w fun e w' => ∃ v0_ : Value, e = .returned (v0_) ∧ Kd.R (Kd.int .i64) 3 w' w.heap.size (fun _ => True) v0_ r ∧ Below w.heap.size w w' := by
  have HR1 := Aside0.mk hr1
  have HC1 := Aside0.mk hc1
  clear hr1 hc1
  have HB := Aside0.mk (Below.refl w.heap.size w)
  unfold spec_l07Asks.f at h
  have H := h
  clear h
  obtain ⟨y127, hy127⟩ : ∃ y_ : List Int, y_ = (([] : List Int)) := ⟨_, rfl⟩
  rw [← hy127] at H
  have Ny127 := Aside0.mk hy127
  clear hy127
  have H' := Aside0.mk H
  clear H
  go_enter Tryd.func34, Tryd.ntmps34
  go_wp2_with (first | ((with_reducible refine gate_dst (N := 7) rfl ?_); refine Kd.R_lit (Kd.int .i64) _ 3 ?hg (N := 7) ?hd (xs := ([] : List Int)) (inner := []) (ok := fun _ => True) (okp := fun _ => True) ?hr ?hp (fun _ hk => hk) trivial (Below.refl _ _) (Nat.le_refl _) (by simp) ?_; (case hd => rfl); (case hg => rfl); (case hr => first | (go_simp; done) | (go_simp; rfl)); (case hp => exact (Reps.none _ _)); intro v128 w3 ho4 hb hg_ hnew_; clear hg_ hnew_; (first | rw [← Ny127.out] at ho4 | (simp only [Int.reduceToNat] at ho4; rw [← Ny127.out] at ho4)); have HO129 := Aside0.mk (Kd.R_lower ho4 (below_size bw)); replace HB := hs hb; clear hb ho4))
  go_loopg [5, 6] k (fun kq v5 v6 w' => ∃ (x5_1 : List Int) (x6_1 : Int), v6 = .int .i64 x6_1 ∧ Aside0 (spec_l07Asks.l0 kq a0 l1 x5_1 x6_1 = some r) ∧ Aside0 (kq ≤ k) ∧ Aside0 (Kd.R (Kd.int .i64) 3 w' w.heap.size (fun _ => True) v5 x5_1) ∧ Aside0 (Below w.heap.size w w'))
  case atStart => exact ⟨(y127), (0), ev, H', ⟨Nat.le_refl _⟩, ⟨ro HO129⟩, ⟨bw⟩⟩
  case round =>
    clear H'
    try clear c1
    obtain ⟨x5_1, x6_1, rfl, HA, HK1, HO_5, HB⟩ := hrel
    cases gk with
    | zero => exact absurd HA.out (by simp [spec_l07Asks.l0])
    | succ k1 =>
      have H := HA.out
      clear HA
      simp only [spec_l07Asks.l0] at H
      replace H := ilt H
      rcases H with ⟨c5b0, H⟩ | ⟨c5b0, H⟩
      · replace H := ieq H
        rcases H with ⟨c6b0, c6b1, H⟩ | ⟨c6, c6b0, c6b1, H⟩
        · by_cases c7 : 0 ≤ x6_1
          · rw [if_pos c7] at H
            have c7b0 : decide (0 ≤ x6_1) = true := decide_eq_true c7
            clear c7
            replace H := igt H
            rcases H with ⟨c8b0, H⟩ | ⟨c8b0, H⟩
            · by_cases c9 : x5_1.length < 17592186044416
              · rw [if_pos c9] at H
                have LMc9 := Aside0.mk c9
                clear c9
                obtain ⟨y131, hy131⟩ : ∃ y_ : List Int, y_ = (x5_1 ++ [x6_1]) := ⟨_, rfl⟩
                rw [← hy131] at H
                have Ny131 := Aside0.mk hy131
                clear hy131
                have H' := Aside0.mk H
                clear H
                have p130 : 0 ≤ (x6_1 : Int) := of_decide_eq_true as_
                have q130 : x6_1 < (l1.length : Int) := of_decide_eq_true as_
                obtain ⟨ad130, e130, hx130_0⟩ := Kd.at_int HR1.out x6_1 p130 q130
                cases e130
                replace hx130_0 := cl HB hx130_0
                replace p130 := eq_true p130
                replace q130 := eq_true q130
                go_wp2_with (first | ((with_reducible refine gate_builtin (b := .append) (xs := #[.tmp 34, .tmp 36]) rfl ?_); at_builtin; refine Kd.R_append (Kd.int .i64) (w0 := w) w.heap.size rfl (.tmp 34) (.tmp 36) 22 3 (.int .i64 0) 8 rfl Tryd.underlying22 info3 rfl (by decide) (by omega) u5 x5_1 x6_1 [.int .i64 x6_1] (fun _ => True) (fun _ => False) rfl rfl ?aP (fun _ hk => hk.elim) ?aF ?aO ?aB ?aS ?aL ?_; (case aP => exact rfl); (case aB => exact bw); (case aF => exact (fun _ _ => trivial)); (case aO => exact (ro HO_5)); (case aS => exact (below_size bw)); (case aL => have := LMc9.out; omega); intro v132 w10 ho hb hg hat; rw [← Ny131.out] at ho; have HO133 := Aside0.mk (ho); replace HB := Aside0.mk (hb); clear HO_5; clear ho hb hg hat))
                go_roundg k1
                case measure => have := HK1.out; omega
                case rel => exact ⟨(y131), (wrap64 (x6_1 + 1)), ev, H', ⟨oa HK1⟩, ⟨ro HO133⟩, ⟨bw⟩⟩
              · rw [if_neg c9] at H
                exact absurd H (by simp)
            · replace H := ieq H
              rcases H with ⟨c11b0, c11b1, H⟩ | ⟨c11, c11b0, c11b1, H⟩
              · replace H := ige H
                rcases H with ⟨c12b0, H⟩ | ⟨c12b0, H⟩
                · by_cases c13 : x5_1.length < 17592186044416
                  · rw [if_pos c13] at H
                    have LMc13 := Aside0.mk c13
                    clear c13
                    obtain ⟨y135, hy135⟩ : ∃ y_ : List Int, y_ = (x5_1 ++ [x6_1]) := ⟨_, rfl⟩
                    rw [← hy135] at H
                    have Ny135 := Aside0.mk hy135
                    clear hy135
                    have H' := Aside0.mk H
                    clear H
                    have p130 : 0 ≤ (x6_1 : Int) := of_decide_eq_true as_
                    have q130 : x6_1 < (l1.length : Int) := of_decide_eq_true as_
                    obtain ⟨ad130, e130, hx130_0⟩ := Kd.at_int HR1.out x6_1 p130 q130
                    cases e130
                    replace hx130_0 := cl HB hx130_0
                    replace p130 := eq_true p130
                    replace q130 := eq_true q130
                    have p134 : 0 ≤ (x6_1 : Int) := of_decide_eq_true as_
                    have q134 : x6_1 < (l1.length : Int) := of_decide_eq_true as_
                    obtain ⟨ad134, e134, hx134_0⟩ := Kd.at_int HR1.out x6_1 p134 q134
                    obtain rfl : ad130 = ad134 := (by injection e134)
                    replace hx134_0 := cl HB hx134_0
                    replace p134 := eq_true p134
                    replace q134 := eq_true q134
                    go_wp2_with (first | ((with_reducible refine gate_builtin (b := .append) (xs := #[.tmp 34, .tmp 36]) rfl ?_); at_builtin; refine Kd.R_append (Kd.int .i64) (w0 := w) w.heap.size rfl (.tmp 34) (.tmp 36) 22 3 (.int .i64 0) 8 rfl Tryd.underlying22 info3 rfl (by decide) (by omega) u5 x5_1 x6_1 [.int .i64 x6_1] (fun _ => True) (fun _ => False) rfl rfl ?aP (fun _ hk => hk.elim) ?aF ?aO ?aB ?aS ?aL ?_; (case aP => exact rfl); (case aB => exact bw); (case aF => exact (fun _ _ => trivial)); (case aO => exact (ro HO_5)); (case aS => exact (below_size bw)); (case aL => have := LMc13.out; omega); intro v136 w14 ho hb hg hat; rw [← Ny135.out] at ho; have HO137 := Aside0.mk (ho); replace HB := Aside0.mk (hb); clear HO_5; clear ho hb hg hat))
                    go_roundg k1
                    case measure => have := HK1.out; omega
                    case rel => exact ⟨(y135), (wrap64 (x6_1 + 1)), ev, H', ⟨oa HK1⟩, ⟨ro HO137⟩, ⟨bw⟩⟩
                  · rw [if_neg c13] at H
                    exact absurd H (by simp)
                · have H' := Aside0.mk H
                  clear H
                  have p130 : 0 ≤ (x6_1 : Int) := of_decide_eq_true as_
                  have q130 : x6_1 < (l1.length : Int) := of_decide_eq_true as_
                  obtain ⟨ad130, e130, hx130_0⟩ := Kd.at_int HR1.out x6_1 p130 q130
                  cases e130
                  replace hx130_0 := cl HB hx130_0
                  replace p130 := eq_true p130
                  replace q130 := eq_true q130
                  have p134 : 0 ≤ (x6_1 : Int) := of_decide_eq_true as_
                  have q134 : x6_1 < (l1.length : Int) := of_decide_eq_true as_
                  obtain ⟨ad134, e134, hx134_0⟩ := Kd.at_int HR1.out x6_1 p134 q134
                  obtain rfl : ad130 = ad134 := (by injection e134)
                  replace hx134_0 := cl HB hx134_0
                  replace p134 := eq_true p134
                  replace q134 := eq_true q134
                  go_wp2
                  go_roundg k1
                  case measure => have := HK1.out; omega
                  case rel => exact ⟨(x5_1), (wrap64 (x6_1 + 1)), ev, H', ⟨oa HK1⟩, ⟨ro HO_5⟩, ⟨bw⟩⟩
              · have H' := Aside0.mk H
                clear H
                have p130 : 0 ≤ (x6_1 : Int) := of_decide_eq_true as_
                have q130 : x6_1 < (l1.length : Int) := of_decide_eq_true as_
                obtain ⟨ad130, e130, hx130_0⟩ := Kd.at_int HR1.out x6_1 p130 q130
                cases e130
                replace hx130_0 := cl HB hx130_0
                replace p130 := eq_true p130
                replace q130 := eq_true q130
                go_wp2
                go_roundg k1
                case measure => have := HK1.out; omega
                case rel => exact ⟨(x5_1), (wrap64 (x6_1 + 1)), ev, H', ⟨oa HK1⟩, ⟨ro HO_5⟩, ⟨bw⟩⟩
          · rw [if_neg c7] at H
            exact absurd H (by simp)
        · replace H := ieq H
          rcases H with ⟨c15b0, c15b1, H⟩ | ⟨c15, c15b0, c15b1, H⟩
          · by_cases c16 : 0 ≤ x6_1
            · rw [if_pos c16] at H
              have c16b0 : decide (0 ≤ x6_1) = true := decide_eq_true c16
              clear c16
              replace H := ige H
              rcases H with ⟨c17b0, H⟩ | ⟨c17b0, H⟩
              · by_cases c18 : x5_1.length < 17592186044416
                · rw [if_pos c18] at H
                  have LMc18 := Aside0.mk c18
                  clear c18
                  obtain ⟨y139, hy139⟩ : ∃ y_ : List Int, y_ = (x5_1 ++ [x6_1]) := ⟨_, rfl⟩
                  rw [← hy139] at H
                  have Ny139 := Aside0.mk hy139
                  clear hy139
                  have H' := Aside0.mk H
                  clear H
                  have p138 : 0 ≤ (x6_1 : Int) := of_decide_eq_true as_
                  have q138 : x6_1 < (l1.length : Int) := of_decide_eq_true as_
                  obtain ⟨ad138, e138, hx138_0⟩ := Kd.at_int HR1.out x6_1 p138 q138
                  cases e138
                  replace hx138_0 := cl HB hx138_0
                  replace p138 := eq_true p138
                  replace q138 := eq_true q138
                  go_wp2_with (first | ((with_reducible refine gate_builtin (b := .append) (xs := #[.tmp 34, .tmp 36]) rfl ?_); at_builtin; refine Kd.R_append (Kd.int .i64) (w0 := w) w.heap.size rfl (.tmp 34) (.tmp 36) 22 3 (.int .i64 0) 8 rfl Tryd.underlying22 info3 rfl (by decide) (by omega) u5 x5_1 x6_1 [.int .i64 x6_1] (fun _ => True) (fun _ => False) rfl rfl ?aP (fun _ hk => hk.elim) ?aF ?aO ?aB ?aS ?aL ?_; (case aP => exact rfl); (case aB => exact bw); (case aF => exact (fun _ _ => trivial)); (case aO => exact (ro HO_5)); (case aS => exact (below_size bw)); (case aL => have := LMc18.out; omega); intro v140 w19 ho hb hg hat; rw [← Ny139.out] at ho; have HO141 := Aside0.mk (ho); replace HB := Aside0.mk (hb); clear HO_5; clear ho hb hg hat))
                  go_roundg k1
                  case measure => have := HK1.out; omega
                  case rel => exact ⟨(y139), (wrap64 (x6_1 + 1)), ev, H', ⟨oa HK1⟩, ⟨ro HO141⟩, ⟨bw⟩⟩
                · rw [if_neg c18] at H
                  exact absurd H (by simp)
              · have H' := Aside0.mk H
                clear H
                have p138 : 0 ≤ (x6_1 : Int) := of_decide_eq_true as_
                have q138 : x6_1 < (l1.length : Int) := of_decide_eq_true as_
                obtain ⟨ad138, e138, hx138_0⟩ := Kd.at_int HR1.out x6_1 p138 q138
                cases e138
                replace hx138_0 := cl HB hx138_0
                replace p138 := eq_true p138
                replace q138 := eq_true q138
                go_wp2
                go_roundg k1
                case measure => have := HK1.out; omega
                case rel => exact ⟨(x5_1), (wrap64 (x6_1 + 1)), ev, H', ⟨oa HK1⟩, ⟨ro HO_5⟩, ⟨bw⟩⟩
            · rw [if_neg c16] at H
              exact absurd H (by simp)
          · have H' := Aside0.mk H
            clear H
            go_wp2
            go_roundg k1
            case measure => have := HK1.out; omega
            case rel => exact ⟨(x5_1), (wrap64 (x6_1 + 1)), ev, H', ⟨oa HK1⟩, ⟨ro HO_5⟩, ⟨bw⟩⟩
      · obtain rfl := Option.some.inj H
        go_wp2
        go_ret
        exact ⟨_, rt, ro HO_5, bw⟩

end Go.Proofs.YtfhcnnkeokjfpaaDoor.PB1
