/- What functions of the program compute, each as a Lean function, and that the run comes to just that. Conditions: none. (Laid by this session's own program.) -/
import Derived.Test.YtobboonnfocalaaT
import Derived.Test.YtobboonnfocalaaT2
import Derived.Test.YtobboonnfocalaaPB1x0
import Derived.Test.YtobboonnfocalaaPB1x9
import Derived.Test.YtobboonnfocalaaPB1x13
namespace Go.Proofs.Ytobboonnfocalaa.PB1
open Go.RowKit Go.Proofs.YtobboonnfocalaaW.PrintWords Go.Proofs.YtobboonnfocalaaW.PrintLast Go.Proofs.YtobboonnfocalaaW.PrintMore Go.Proofs.Ytobboonnfocalaa.T
attribute [local go_sem] max2_int min2_int max_two min_two max_three min_three max_four min_four   -- for this text's walks alone
set_option linter.unusedVariables false
set_option linter.unusedSimpArgs false

/-! ### laws_pick: function 16 -/
mutual
def laws_pick.j0 : Nat → List Int → Int → Int → Bool → Option (Int)
  | 0, _, _, _, _ => none
  | k + 1, x0, x1, x2, x15 => if x15 = true then (some 0) else (laws_pick.l0 k x0 x1 x2 0 0)
def laws_pick.l0 : Nat → List Int → Int → Int → Int → Int → Option (Int)
  | 0, _, _, _, _, _ => none
  | k + 1, x0, x1, x2, x7, x8 => if x8 < 3 then (if (x0.length : Int) = 0 then (none) else (if 0 ≤ (Int.tmod (wrap64 (x1 + x8)) (x0.length : Int)) then (if (Int.tmod (wrap64 (x1 + x8)) (x0.length : Int)) < (x0.length : Int) then (laws_pick.l0 k x0 x1 x2 (wrap64 ((wrap64 (31 * x7)) + (wrap64 (rd x0 (Int.tmod (wrap64 (x1 + x8)) (x0.length : Int)))))) (wrap64 (x8 + 1))) else (none)) else (none))) else (if x2 = 0 then (none) else (some (Int.tmod (wrap64 (x7 + x1)) x2)))
end
def laws_pick.f (k : Nat) (l0 : List Int) (a1 : Int) (a2 : Int) : Option (Int) := if (l0.length : Int) = 0 then (laws_pick.j0 k l0 a1 a2 true) else (laws_pick.j0 k l0 a1 a2 (decide (a2 < 2)))
theorem laws_pick.mono_l : ∀ k, (∀ y0 y1 y2 y3, LeO (laws_pick.j0 k y0 y1 y2 y3) (laws_pick.j0 (k + 1) y0 y1 y2 y3)) ∧ (∀ y0 y1 y2 y3 y4, LeO (laws_pick.l0 k y0 y1 y2 y3 y4) (laws_pick.l0 (k + 1) y0 y1 y2 y3 y4))
  | 0 => ⟨fun _ _ _ _ r h => by simp [laws_pick.j0] at h, fun _ _ _ _ _ r h => by simp [laws_pick.l0] at h⟩
  | k + 1 => by
    obtain ⟨ih0, ih1⟩ := laws_pick.mono_l k
    refine ⟨?_, ?_⟩
    · intro y0 y1 y2 y3
      unfold laws_pick.j0
      repeat' first
        | (with_reducible first | exact ih0 .. | exact ih1 .. | exact LeO.refl _ | exact LeO.none _ | refine LeO.ite ?_ ?_ | refine LeO.bind ?_ (fun _ => ?_))
        | exact LeO.none _ | refine LeO.ite ?_ ?_ | refine LeO.bind ?_ (fun _ => ?_)
    · intro y0 y1 y2 y3 y4
      unfold laws_pick.l0
      repeat' first
        | (with_reducible first | exact ih0 .. | exact ih1 .. | exact LeO.refl _ | exact LeO.none _ | refine LeO.ite ?_ ?_ | refine LeO.bind ?_ (fun _ => ?_))
        | exact LeO.none _ | refine LeO.ite ?_ ?_ | refine LeO.bind ?_ (fun _ => ?_)
theorem laws_pick.mono : ∀ a0 a1 a2 k, LeO (laws_pick.f k a0 a1 a2) (laws_pick.f (k + 1) a0 a1 a2) := by
  intro a0 a1 a2 k
  obtain ⟨ih0, ih1⟩ := laws_pick.mono_l k
  unfold laws_pick.f
  repeat' first
    | (with_reducible first | exact ih0 .. | exact ih1 .. | exact LeO.refl _ | exact LeO.none _ | refine LeO.ite ?_ ?_ | refine LeO.bind ?_ (fun _ => ?_))
    | exact LeO.none _ | refine LeO.ite ?_ ?_ | refine LeO.bind ?_ (fun _ => ?_)
set_option maxHeartbeats 2000000 in
set_option maxRecDepth 100000 in
theorem laws_pick.calls (k : Nat) (A0 : Option Addr) (c0 : Nat) (l0 : List Int) (a1 : Int) (a2 : Int) (r : Int) (w : World) (hr0 : Kd.C (Kd.int .u8) w A0 l0.length l0) (hc0 : l0.length ≤ c0) (h : laws_pick.f k l0 a1 a2 = some r) :
    Calls Try.prog 16 #[.slice A0 l0.length c0, .int .i64 a1, .int .i64 a2] w fun e w' => e = .returned (.int .i64 r) ∧ Drawn0 w w' := by
  have HR0 := Aside0.mk hr0
  have HC0 := Aside0.mk hc0
  clear hr0 hc0
  unfold laws_pick.f at h
  have H := h
  clear h
  have HC4 := Aside0.mk H
  clear H
  go_enter Try.func16, Try.ntmps16
  go_upto_region 1 with (fail)
  go_cut [15] (fun v15 wc => ∃ (kq : Nat) (x15_3 : Bool), v15 = .bool x15_3 ∧ Aside0 (laws_pick.j0 kq l0 a1 a2 x15_3 = some r) ∧ Aside0 (kq ≤ k) ∧ Drawn0 w wc)
  case first =>
    have H := HC4.out
    clear HC4
    by_cases c5 : (l0.length : Int) = 0
    · rw [if_pos c5] at H
      have c5b0 : ((l0.length : Int) == 0) = true := beq_iff_eq.mpr c5
      have c5b1 : ((l0.length : Int) != 0) = false := bne_eq_false_iff_eq.mpr c5
      clear c5
      (first | rw [c5b0] | (simp only [i64_w, i32_w]; rw [c5b0]) | (simp only [c5b2, Bool.not_true, Bool.not_false]) | (simp only [c5b1, Bool.not_true, Bool.not_false]) | skip)
      have H' := Aside0.mk H
      clear H
      go_wp2
      go_meet
      case rel => exact ⟨_, (true), ev, H', ⟨om⟩, dr⟩
    · rw [if_neg c5] at H
      have c5b0 : ((l0.length : Int) == 0) = false := beq_eq_false_iff_ne.mpr c5
      have c5b1 : ((l0.length : Int) != 0) = true := bne_iff_ne.mpr c5
      have c5b2 : ¬ (l0 = []) := fun h_ => c5 (by rw [h_]; rfl)
      (first | rw [c5b0] | (simp only [i64_w, i32_w]; rw [c5b0]) | (simp only [c5b2, Bool.not_true, Bool.not_false]) | (simp only [c5b1, Bool.not_true, Bool.not_false]) | skip)
      have H' := Aside0.mk H
      clear H
      go_wp2
      go_meet
      case rel => exact ⟨_, (decide (a2 < 2)), ev, H', ⟨om⟩, dr⟩
  case rest =>
    clear HC4
    obtain ⟨kq, x15_3, rfl, HA, HJ3, ⟨mc3, rfl⟩⟩ := hcut
    cases kq with
    | zero => exact absurd HA.out (by simp [laws_pick.j0])
    | succ kj3 =>
      have H := HA.out
      clear HA
      simp only [laws_pick.j0] at H
      replace H := ib H
      rcases H with ⟨rfl, H⟩ | ⟨rfl, H⟩
      · obtain rfl := Option.some.inj H
        go_wp2
        go_ret
        exact ⟨ev, dr⟩
      · have H' := Aside0.mk H
        clear H
        go_wp2
        go_loopg [7, 8] kj3 (fun kq v7 v8 w' => ∃ (x7_2 : Int) (x8_2 : Int), v7 = .int .i64 x7_2 ∧ v8 = .int .i64 x8_2 ∧ Aside0 (laws_pick.l0 kq l0 a1 a2 x7_2 x8_2 = some r) ∧ Aside0 (kq ≤ kj3) ∧ Drawn0 w w')
        case atStart => exact ⟨(0), (0), ev, ev, H', ⟨Nat.le_refl _⟩, dr⟩
        case round =>
          clear H'
          try clear c6
          obtain ⟨x7_2, x8_2, rfl, rfl, HA, HK2, ⟨m2, rfl⟩⟩ := hrel
          cases gk with
          | zero => exact absurd HA.out (by simp [laws_pick.l0])
          | succ k2 =>
            have H := HA.out
            clear HA
            simp only [laws_pick.l0] at H
            replace H := ilt H
            rcases H with ⟨c7b0, H⟩ | ⟨c7b0, H⟩
            · by_cases c8 : (l0.length : Int) = 0
              · rw [if_pos c8] at H
                exact absurd H (by simp)
              · rw [if_neg c8] at H
                have c8b0 : ((l0.length : Int) == 0) = false := beq_eq_false_iff_ne.mpr c8
                have c8b1 : ((l0.length : Int) != 0) = true := bne_iff_ne.mpr c8
                have c8b2 : ¬ (l0 = []) := fun h_ => c8 (by rw [h_]; rfl)
                obtain ⟨ji9, hji9⟩ : ∃ j_ : Int, (Int.tmod (wrap64 (a1 + x8_2)) (l0.length : Int)) = j_ := ⟨_, rfl⟩
                first | rw [hji9] at H | simp only [hji9] at H
                by_cases c10 : 0 ≤ (ji9)
                · rw [if_pos c10] at H
                  have c10b0 : decide (0 ≤ (ji9)) = true := decide_eq_true c10
                  clear c10
                  by_cases c11 : (ji9) < (l0.length : Int)
                  · rw [if_pos c11] at H
                    have c11b0 : decide ((ji9) < (l0.length : Int)) = true := decide_eq_true c11
                    clear c11
                    have H' := Aside0.mk H
                    clear H
                    have p432 : 0 ≤ ((ji9) : Int) := of_decide_eq_true as_
                    have q432 : (ji9) < (l0.length : Int) := of_decide_eq_true as_
                    obtain ⟨ad432, e432, hx432_0⟩ := Kd.at_int HR0.out (ji9) p432 q432
                    cases e432
                    replace p432 := eq_true p432
                    replace q432 := eq_true q432
                    go_wp2
                    go_roundg k2
                    case measure => have := HJ3.out; have := HK2.out; omega
                    case rel => exact ⟨(wrap64 ((wrap64 (31 * x7_2)) + (wrap64 (rd l0 (ji9))))), (wrap64 (x8_2 + 1)), (by first | rfl | (simp; done) | (simp only [← hji9] <;> (first | rfl | simp)) | (simp [*]; done)), ev, H', ⟨by have := HJ3.out; have := HK2.out; omega⟩, dr⟩
                  · rw [if_neg c11] at H
                    exact absurd H (by simp)
                · rw [if_neg c10] at H
                  exact absurd H (by simp)
            · by_cases c12 : a2 = 0
              · rw [if_pos c12] at H
                exact absurd H (by simp)
              · rw [if_neg c12] at H
                have c12b0 : (a2 == 0) = false := beq_eq_false_iff_ne.mpr c12
                have c12b1 : (a2 != 0) = true := bne_iff_ne.mpr c12
                obtain rfl := Option.some.inj H
                go_wp2
                go_ret
                exact ⟨ev, dr⟩

/-! ### impl_LiveFree: function 18 -/
def impl_LiveFree.l0 : Nat → Int → List (S37) → Int → List (S37) → Int → Int → Option ((List (S37)))
  | 0, _, _, _, _, _, _ => none
  | k + 1, x1, x5, x6, x13, x14, x15 => if x15 < x14 then (if 0 ≤ x15 then (if x15 < (x13.length : Int) then (if ((rd_T37 x13 x15).f0) > x6 then (if x5.length < 8796093022208 then (impl_LiveFree.l0 k x1 (x5 ++ [(⟨x6, wrap64 (((rd_T37 x13 x15).f0) - x6)⟩ : S37)]) (wrap64 (((rd_T37 x13 x15).f0) + ((rd_T37 x13 x15).f1))) x13 x14 (wrap64 (x15 + 1))) else (none)) else (impl_LiveFree.l0 k x1 x5 (wrap64 (((rd_T37 x13 x15).f0) + ((rd_T37 x13 x15).f1))) x13 x14 (wrap64 (x15 + 1)))) else (none)) else (none)) else (if x6 < x1 then (if x5.length < 8796093022208 then (some (x5 ++ [(⟨x6, wrap64 (x1 - x6)⟩ : S37)])) else (none)) else (some x5))
def impl_LiveFree.f (k : Nat) (l0 : List (S37)) (a1 : Int) : Option ((List (S37))) := (impl_areLive.f k l0 a1).bind fun t433 => (if t433 = true then (impl_LiveFree.l0 k a1 ([] : List (S37)) 0 l0 (l0.length : Int) 0) else (some ([] : List (S37))))
theorem impl_LiveFree.mono_l : ∀ k, (∀ y0 y1 y2 y3 y4 y5, LeO (impl_LiveFree.l0 k y0 y1 y2 y3 y4 y5) (impl_LiveFree.l0 (k + 1) y0 y1 y2 y3 y4 y5))
  | 0 => fun _ _ _ _ _ _ r h => by simp [impl_LiveFree.l0] at h
  | k + 1 => by
    have ih0 := impl_LiveFree.mono_l k
    · intro y0 y1 y2 y3 y4 y5
      unfold impl_LiveFree.l0
      repeat' first
        | (with_reducible first | exact ih0 .. | exact impl_areLive.mono .. | exact LeO.refl _ | exact LeO.none _ | refine LeO.ite ?_ ?_ | refine LeO.bind ?_ (fun _ => ?_))
        | exact LeO.none _ | refine LeO.ite ?_ ?_ | refine LeO.bind ?_ (fun _ => ?_)
theorem impl_LiveFree.mono : ∀ a0 a1 k, LeO (impl_LiveFree.f k a0 a1) (impl_LiveFree.f (k + 1) a0 a1) := by
  intro a0 a1 k
  have ih0 := impl_LiveFree.mono_l k
  unfold impl_LiveFree.f
  repeat' first
    | (with_reducible first | exact ih0 .. | exact impl_areLive.mono .. | exact LeO.refl _ | exact LeO.none _ | refine LeO.ite ?_ ?_ | refine LeO.bind ?_ (fun _ => ?_))
    | exact LeO.none _ | refine LeO.ite ?_ ?_ | refine LeO.bind ?_ (fun _ => ?_)
set_option maxHeartbeats 2000000 in
set_option maxRecDepth 100000 in
theorem impl_LiveFree.calls (k : Nat) (A0 : Option Addr) (c0 : Nat) (l0 : List (S37)) (a1 : Int) (r : List (S37)) (w : World) (hr0 : Kd.C k37 w A0 l0.length l0) (hc0 : l0.length ≤ c0) (h : impl_LiveFree.f k l0 a1 = some r) :
    Calls Try.prog 18 #[.slice A0 l0.length c0, .int .i64 a1] w fun e w' => ∃ v0_ : Value, e = .returned (v0_) ∧ Kd.R k37 37 w' w.heap.size (fun _ => True) v0_ r ∧ Below w.heap.size w w' := by
  have hu37 := Try.underlying37
  have HR0 := Aside0.mk hr0
  have HC0 := Aside0.mk hc0
  clear hr0 hc0
  have HB := Aside0.mk (Below.refl w.heap.size w)
  unfold impl_LiveFree.f at h
  have H := h
  clear h
  replace H := bn H
  obtain ⟨t433, A3, H⟩ := H
  try dsimp only at H
  have HU4 := Aside0.mk H
  clear H
  go_enter Try.func18, Try.ntmps18
  go_upto_if 12 with (first | ((with_reducible refine gf 38 ?_); refine gl 38 Try.func38 (some 11) #[.slice A0 l0.length c0, .int .i64 a1] ?_; (with_reducible refine (impl_areLive.calls _ _ _ _ _ _ _ ?side1 ?side2 A3.out).mono ?_); (case side1 => repeat (first | exact HR0.out | (with_reducible refine Kd.C_alloc ?_ _) | (with_reducible refine Kd.C_drewN ?_ _) | (with_reducible refine Kd.C_drew ?_))); (case side2 => exact HC0.out); rintro e w5 ⟨rfl, hb⟩; refine ⟨_, rfl, ?_⟩; replace HB := hs hb; try clear hb))
  (try refine ap ?_)
  have H := HU4.out
  clear HU4
  replace H := ib H
  rcases H with ⟨rfl, H⟩ | ⟨rfl, H⟩
  · (try simp only [Bool.not_true, Bool.not_false])
    have H' := Aside0.mk H
    clear H
    go_wp2
    go_loopg [5, 6, 15] k (fun kq v5 v6 v15 w' => ∃ (x5_1 : List (S37)) (x6_1 : Int) (x15_1 : Int), v6 = .int .i64 x6_1 ∧ v15 = .int .i64 x15_1 ∧ Aside0 (impl_LiveFree.l0 kq a1 x5_1 x6_1 l0 (l0.length : Int) x15_1 = some r) ∧ Aside0 (kq ≤ k) ∧ Aside0 (Kd.R k37 37 w' w.heap.size (fun _ => True) v5 x5_1) ∧ Aside0 (Below w.heap.size w w'))
    case atStart => exact ⟨(([] : List (S37))), (0), (0), ev, ev, H', ⟨Nat.le_refl _⟩, ⟨by first | exact Kd.R_nil _ _ _ _ _ | exact Kd.N_nil _ _ _ _ _ | exact Kd.V_nil _ _ _ _ _ | exact Kd.Q_nil _ _ _ _ _ | exact Kd.S_nil _ _ _ _ _⟩, ⟨bw⟩⟩
    case round =>
      clear H'
      try clear c6
      obtain ⟨x5_1, x6_1, x15_1, rfl, rfl, HA, HK1, HO_5, HB⟩ := hrel
      cases gk with
      | zero => exact absurd HA.out (by simp [impl_LiveFree.l0])
      | succ k1 =>
        have H := HA.out
        clear HA
        simp only [impl_LiveFree.l0] at H
        replace H := ilt H
        rcases H with ⟨c7b0, H⟩ | ⟨c7b0, H⟩
        · by_cases c8 : 0 ≤ x15_1
          · rw [if_pos c8] at H
            have c8b0 : decide (0 ≤ x15_1) = true := decide_eq_true c8
            clear c8
            by_cases c9 : x15_1 < (l0.length : Int)
            · rw [if_pos c9] at H
              have c9b0 : decide (x15_1 < (l0.length : Int)) = true := decide_eq_true c9
              clear c9
              have HU10 := Aside0.mk H
              clear H
              have p434 : 0 ≤ (x15_1 : Int) := of_decide_eq_true as_
              have q434 : x15_1 < (l0.length : Int) := of_decide_eq_true as_
              obtain ⟨ad434, e434, hx434_0, hx434_1⟩ := at_T37 HR0.out x15_1 p434 q434
              cases e434
              replace hx434_0 := cl HB hx434_0
              replace hx434_1 := cl HB hx434_1
              replace p434 := eq_true p434
              replace q434 := eq_true q434
              go_upto_if 22 with (first | ((with_reducible refine gd 8 ?_); refine bx 8 37 #[.int .i64 0, .int .i64 0] ?_; clear HB; intro gb435 w11 hg BK435 hb GE435 HB; replace HO_5 := Aside0.mk (Kd.R_below (Kd.R_elderB (ro HO_5) gb435 (Nat.le_of_eq hg.symm)) hb); clear hb hg; obtain ⟨z12_0, z12_1⟩ := ca2 BK435; obtain ⟨f12_0, f12_1⟩ := fa2 BK435))
              (try refine ap ?_)
              have H := HU10.out
              clear HU10
              replace H := igt H
              rcases H with ⟨c13b0, H⟩ | ⟨c13b0, H⟩
              · (first | rw [c13b0] | (simp only [i64_w, i32_w]; rw [c13b0]) | (simp only [c13b2, Bool.not_true, Bool.not_false]) | (simp only [c13b1, Bool.not_true, Bool.not_false]) | skip)
                by_cases c14 : x5_1.length < 8796093022208
                · rw [if_pos c14] at H
                  have LMc14 := Aside0.mk c14
                  clear c14
                  obtain ⟨y436, hy436⟩ : ∃ y_ : List (S37), y_ = (x5_1 ++ [(⟨x6_1, wrap64 (((rd_T37 l0 x15_1).f0) - x6_1)⟩ : S37)]) := ⟨_, rfl⟩
                  rw [← hy436] at H
                  try with_reducible replace H := bs H
                  have Ny436 := Aside0.mk hy436
                  clear hy436
                  have H' := Aside0.mk H
                  clear H
                  obtain ⟨z15_0, z15_1⟩ := ca2 BK435
                  obtain ⟨f15_0, f15_1⟩ := fa2 BK435
                  go_wp2_with (first | ((with_reducible refine gate_builtin (b := .append) (xs := #[.tmp 23, .tmp 30]) rfl ?_); at_builtin; refine Kd.R_append k37 (w0 := w) w.heap.size rfl (.tmp 23) (.tmp 30) 35 37 (.agg #[(.int .i64 0), (.int .i64 0)]) 16 rfl Try.underlying35 info37 rfl (by decide) (by omega) u5 x5_1 (⟨x6_1, wrap64 (((rd_T37 l0 x15_1).f0) - x6_1)⟩ : S37) [.int .i64 x6_1, .int .i64 (wrap64 (((rd_T37 l0 x15_1).f0) - x6_1))] (fun k_ => k_ ≠ gb435) (fun _ => False) rfl (by first | (go_simp; done) | (go_simp; rfl)) ?aP (fun _ hk => hk.elim) ?aF ?aO ?aB ?aS ?aL ?_; (case aP => exact k37_mkM _ _ _ (⟨x6_1, wrap64 (((rd_T37 l0 x15_1).f0) - x6_1)⟩ : S37)); (case aB => exact bw); (case aF => exact (fun k_ hk => Kd.freshB (g := gb435) (o := .cells #[.int .i64 ((rd_T37 l0 x15_1).f0), .int .i64 ((rd_T37 l0 x15_1).f1)] 37 (0, 0)) (bp BK435) k_ hk)); (case aO => exact (by (with_reducible repeat (first | apply Kd.R_alloc | apply Kd.R_drewN | apply Kd.R_drew)); exact Kd.R_mono (Kd.R_far (p := ⟨gb435, 1, none⟩) (Kd.R_far (p := ⟨gb435, 0, none⟩) (Kd.R_mono HO_5.out (fun k_ hk => (⟨hk, hk.2⟩ : _ ∧ k_ ≠ gb435))) (fun _ hk => hk.2) (.int .i64 ((rd_T37 l0 x15_1).f0))) (fun _ hk => hk.2) (.int .i64 ((rd_T37 l0 x15_1).f1))) (fun _ hk => hk.1.2))); (case aS => exact (below_size bw)); (case aL => have := LMc14.out; omega); intro v437 w16 ho hb hg hat; rw [← Ny436.out] at ho; replace BK435 := Aside0.mk (blk_grown (g := gb435) (o := .cells #[.int .i64 ((rd_T37 l0 x15_1).f0), .int .i64 ((rd_T37 l0 x15_1).f1)] 37 (0, 0)) (bp BK435) hg (Kd.R_away HO_5.out (fun _ hk => hk.2))); have HO438 := Aside0.mk (ho); replace HB := Aside0.mk (hb); clear HO_5; clear ho hb hg hat; obtain ⟨z17_0, z17_1⟩ := ca2 BK435; obtain ⟨f17_0, f17_1⟩ := fa2 BK435))
                  go_roundg k1
                  case measure => have := HK1.out; omega
                  case rel => exact ⟨(y436), (wrap64 (((rd_T37 l0 x15_1).f0) + ((rd_T37 l0 x15_1).f1))), (wrap64 (x15_1 + 1)), ev, ev, H', ⟨oa HK1⟩, ⟨by (with_reducible repeat (first | apply Kd.R_alloc | apply Kd.R_drewN | apply Kd.R_drew)); exact Kd.R_mono HO438.out (fun _ hk => trivial)⟩, ⟨bw⟩⟩
                · rw [if_neg c14] at H
                  exact absurd H (by simp)
              · (first | rw [c13b0] | (simp only [i64_w, i32_w]; rw [c13b0]) | (simp only [c13b2, Bool.not_true, Bool.not_false]) | (simp only [c13b1, Bool.not_true, Bool.not_false]) | skip)
                have H' := Aside0.mk H
                clear H
                obtain ⟨z18_0, z18_1⟩ := ca2 BK435
                obtain ⟨f18_0, f18_1⟩ := fa2 BK435
                go_wp2
                go_roundg k1
                case measure => have := HK1.out; omega
                case rel => exact ⟨(x5_1), (wrap64 (((rd_T37 l0 x15_1).f0) + ((rd_T37 l0 x15_1).f1))), (wrap64 (x15_1 + 1)), ev, ev, H', ⟨oa HK1⟩, ⟨by (with_reducible repeat (first | apply Kd.R_alloc | apply Kd.R_drewN | apply Kd.R_drew)); exact Kd.R_mono (Kd.R_far (p := ⟨gb435, 1, none⟩) (Kd.R_far (p := ⟨gb435, 0, none⟩) (Kd.R_mono HO_5.out (fun k_ hk => (⟨hk, hk.2⟩ : _ ∧ k_ ≠ gb435))) (fun _ hk => hk.2) (.int .i64 ((rd_T37 l0 x15_1).f0))) (fun _ hk => hk.2) (.int .i64 ((rd_T37 l0 x15_1).f1))) (fun _ hk => trivial)⟩, ⟨bw⟩⟩
            · rw [if_neg c9] at H
              exact absurd H (by simp)
          · rw [if_neg c8] at H
            exact absurd H (by simp)
        · replace H := ilt H
          rcases H with ⟨c19b0, H⟩ | ⟨c19b0, H⟩
          · by_cases c20 : x5_1.length < 8796093022208
            · rw [if_pos c20] at H
              have LMc20 := Aside0.mk c20
              clear c20
              obtain ⟨y439, hy439⟩ : ∃ y_ : List (S37), y_ = (x5_1 ++ [(⟨x6_1, wrap64 (a1 - x6_1)⟩ : S37)]) := ⟨_, rfl⟩
              rw [← hy439] at H
              try with_reducible replace H := bs H
              have Ny439 := Aside0.mk hy439
              clear hy439
              obtain rfl := Option.some.inj H
              go_wp2_with (first | ((with_reducible refine gate_builtin (b := .append) (xs := #[.tmp 41, .tmp 47]) rfl ?_); at_builtin; refine Kd.R_append k37 (w0 := w) w.heap.size rfl (.tmp 41) (.tmp 47) 35 37 (.agg #[(.int .i64 0), (.int .i64 0)]) 16 rfl Try.underlying35 info37 rfl (by decide) (by omega) u5 x5_1 (⟨x6_1, wrap64 (a1 - x6_1)⟩ : S37) [.int .i64 x6_1, .int .i64 (wrap64 (a1 - x6_1))] (fun _ => True) (fun _ => False) rfl rfl ?aP (fun _ hk => hk.elim) ?aF ?aO ?aB ?aS ?aL ?_; (case aP => exact k37_mkM _ _ _ (⟨x6_1, wrap64 (a1 - x6_1)⟩ : S37)); (case aB => exact bw); (case aF => exact (fun _ _ => trivial)); (case aO => exact (ro HO_5)); (case aS => exact (below_size bw)); (case aL => have := LMc20.out; omega); intro v440 w21 ho hb hg hat; rw [← Ny439.out] at ho; have HO441 := Aside0.mk (ho); replace HB := Aside0.mk (hb); clear HO_5; clear ho hb hg hat))
              go_ret
              exact ⟨_, rt, ro HO441, bw⟩
            · rw [if_neg c20] at H
              exact absurd H (by simp)
          · obtain rfl := Option.some.inj H
            go_wp2
            go_ret
            exact ⟨_, rt, ro HO_5, bw⟩
  · (try simp only [Bool.not_true, Bool.not_false])
    obtain rfl := Option.some.inj H
    go_wp2
    go_ret
    exact ⟨_, rt, by first | exact Kd.R_nil _ _ _ _ _ | exact Kd.N_nil _ _ _ _ _ | exact Kd.V_nil _ _ _ _ _ | exact Kd.Q_nil _ _ _ _ _ | exact Kd.S_nil _ _ _ _ _, bw⟩

/-! ### impl_LiveSum: function 19 -/
def impl_LiveSum.l0 : Nat → Int → List (S37) → Int → Int → Option (Int)
  | 0, _, _, _, _ => none
  | k + 1, x5, x12, x13, x14 => if x14 < x13 then (if 0 ≤ x14 then (if x14 < (x12.length : Int) then (impl_LiveSum.l0 k (wrap64 (x5 + ((rd_T37 x12 x14).f1))) x12 x13 (wrap64 (x14 + 1))) else (none)) else (none)) else (some x5)
def impl_LiveSum.f (k : Nat) (l0 : List (S37)) (a1 : Int) : Option (Int) := (impl_areLive.f k l0 a1).bind fun t442 => (if t442 = true then (impl_LiveSum.l0 k 0 l0 (l0.length : Int) 0) else (some (-1)))
theorem impl_LiveSum.mono_l : ∀ k, (∀ y0 y1 y2 y3, LeO (impl_LiveSum.l0 k y0 y1 y2 y3) (impl_LiveSum.l0 (k + 1) y0 y1 y2 y3))
  | 0 => fun _ _ _ _ r h => by simp [impl_LiveSum.l0] at h
  | k + 1 => by
    have ih0 := impl_LiveSum.mono_l k
    · intro y0 y1 y2 y3
      unfold impl_LiveSum.l0
      repeat' first
        | (with_reducible first | exact ih0 .. | exact impl_areLive.mono .. | exact LeO.refl _ | exact LeO.none _ | refine LeO.ite ?_ ?_ | refine LeO.bind ?_ (fun _ => ?_))
        | exact LeO.none _ | refine LeO.ite ?_ ?_ | refine LeO.bind ?_ (fun _ => ?_)
theorem impl_LiveSum.mono : ∀ a0 a1 k, LeO (impl_LiveSum.f k a0 a1) (impl_LiveSum.f (k + 1) a0 a1) := by
  intro a0 a1 k
  have ih0 := impl_LiveSum.mono_l k
  unfold impl_LiveSum.f
  repeat' first
    | (with_reducible first | exact ih0 .. | exact impl_areLive.mono .. | exact LeO.refl _ | exact LeO.none _ | refine LeO.ite ?_ ?_ | refine LeO.bind ?_ (fun _ => ?_))
    | exact LeO.none _ | refine LeO.ite ?_ ?_ | refine LeO.bind ?_ (fun _ => ?_)
set_option maxHeartbeats 2000000 in
set_option maxRecDepth 100000 in
theorem impl_LiveSum.calls (k : Nat) (A0 : Option Addr) (c0 : Nat) (l0 : List (S37)) (a1 : Int) (r : Int) (w : World) (hr0 : Kd.C k37 w A0 l0.length l0) (hc0 : l0.length ≤ c0) (h : impl_LiveSum.f k l0 a1 = some r) :
    Calls Try.prog 19 #[.slice A0 l0.length c0, .int .i64 a1] w fun e w' => e = .returned (.int .i64 r) ∧ Below w.heap.size w w' := by
  have hu37 := Try.underlying37
  have HR0 := Aside0.mk hr0
  have HC0 := Aside0.mk hc0
  clear hr0 hc0
  have HB := Aside0.mk (Below.refl w.heap.size w)
  unfold impl_LiveSum.f at h
  have H := h
  clear h
  replace H := bn H
  obtain ⟨t442, A3, H⟩ := H
  try dsimp only at H
  have HU4 := Aside0.mk H
  clear H
  go_enter Try.func19, Try.ntmps19
  go_upto_if 11 with (first | ((with_reducible refine gf 38 ?_); refine gl 38 Try.func38 (some 10) #[.slice A0 l0.length c0, .int .i64 a1] ?_; (with_reducible refine (impl_areLive.calls _ _ _ _ _ _ _ ?side1 ?side2 A3.out).mono ?_); (case side1 => repeat (first | exact HR0.out | (with_reducible refine Kd.C_alloc ?_ _) | (with_reducible refine Kd.C_drewN ?_ _) | (with_reducible refine Kd.C_drew ?_))); (case side2 => exact HC0.out); rintro e w5 ⟨rfl, hb⟩; refine ⟨_, rfl, ?_⟩; replace HB := hs hb; try clear hb))
  (try refine ap ?_)
  have H := HU4.out
  clear HU4
  replace H := ib H
  rcases H with ⟨rfl, H⟩ | ⟨rfl, H⟩
  · (try simp only [Bool.not_true, Bool.not_false])
    have H' := Aside0.mk H
    clear H
    go_wp2
    go_loopg [5, 14] k (fun kq v5 v14 w' => ∃ (x5_1 : Int) (x14_1 : Int), v5 = .int .i64 x5_1 ∧ v14 = .int .i64 x14_1 ∧ Aside0 (impl_LiveSum.l0 kq x5_1 l0 (l0.length : Int) x14_1 = some r) ∧ Aside0 (kq ≤ k) ∧ Aside0 (Below w.heap.size w w'))
    case atStart => exact ⟨(0), (0), ev, ev, H', ⟨Nat.le_refl _⟩, ⟨bw⟩⟩
    case round =>
      clear H'
      try clear c6
      obtain ⟨x5_1, x14_1, rfl, rfl, HA, HK1, HB⟩ := hrel
      cases gk with
      | zero => exact absurd HA.out (by simp [impl_LiveSum.l0])
      | succ k1 =>
        have H := HA.out
        clear HA
        simp only [impl_LiveSum.l0] at H
        replace H := ilt H
        rcases H with ⟨c7b0, H⟩ | ⟨c7b0, H⟩
        · by_cases c8 : 0 ≤ x14_1
          · rw [if_pos c8] at H
            have c8b0 : decide (0 ≤ x14_1) = true := decide_eq_true c8
            clear c8
            by_cases c9 : x14_1 < (l0.length : Int)
            · rw [if_pos c9] at H
              have c9b0 : decide (x14_1 < (l0.length : Int)) = true := decide_eq_true c9
              clear c9
              have H' := Aside0.mk H
              clear H
              have p443 : 0 ≤ (x14_1 : Int) := of_decide_eq_true as_
              have q443 : x14_1 < (l0.length : Int) := of_decide_eq_true as_
              obtain ⟨ad443, e443, hx443_0, hx443_1⟩ := at_T37 HR0.out x14_1 p443 q443
              cases e443
              replace hx443_0 := cl HB hx443_0
              replace hx443_1 := cl HB hx443_1
              replace p443 := eq_true p443
              replace q443 := eq_true q443
              go_wp2_with (first | ((with_reducible refine gd 7 ?_); refine bx 7 37 #[.int .i64 0, .int .i64 0] ?_; clear HB; intro gb444 w10 hg BK444 hb GE444 HB; clear hb hg; obtain ⟨z11_0, z11_1⟩ := ca2 BK444; obtain ⟨f11_0, f11_1⟩ := fa2 BK444))
              go_roundg k1
              case measure => have := HK1.out; omega
              case rel => exact ⟨(wrap64 (x5_1 + ((rd_T37 l0 x14_1).f1))), (wrap64 (x14_1 + 1)), ev, ev, H', ⟨oa HK1⟩, ⟨bw⟩⟩
            · rw [if_neg c9] at H
              exact absurd H (by simp)
          · rw [if_neg c8] at H
            exact absurd H (by simp)
        · obtain rfl := Option.some.inj H
          go_wp2
          go_ret
          exact ⟨rt, bw⟩
  · (try simp only [Bool.not_true, Bool.not_false])
    obtain rfl := Option.some.inj H
    go_wp2
    go_ret
    exact ⟨rt, bw⟩

/-! ### spec_LiveSum: function 20 -/
def spec_LiveSum.l0 : Nat → List (S37) → Int → Int → Option (Int)
  | 0, _, _, _ => none
  | k + 1, x0, x5, x6 => if x6 < (x0.length : Int) then (if 0 ≤ x6 then (spec_LiveSum.l0 k x0 (wrap64 (x5 + ((rd_T37 x0 x6).f1))) (wrap64 (x6 + 1))) else (none)) else (some x5)
def spec_LiveSum.f (k : Nat) (l0 : List (S37)) (a1 : Int) : Option (Int) := (spec_LiveOk.f k l0 a1).bind fun t445 => (if t445 = true then (spec_LiveSum.l0 k l0 0 0) else (some (-1)))
theorem spec_LiveSum.mono_l : ∀ k, (∀ y0 y1 y2, LeO (spec_LiveSum.l0 k y0 y1 y2) (spec_LiveSum.l0 (k + 1) y0 y1 y2))
  | 0 => fun _ _ _ r h => by simp [spec_LiveSum.l0] at h
  | k + 1 => by
    have ih0 := spec_LiveSum.mono_l k
    · intro y0 y1 y2
      unfold spec_LiveSum.l0
      repeat' first
        | (with_reducible first | exact ih0 .. | exact spec_LiveOk.mono .. | exact LeO.refl _ | exact LeO.none _ | refine LeO.ite ?_ ?_ | refine LeO.bind ?_ (fun _ => ?_))
        | exact LeO.none _ | refine LeO.ite ?_ ?_ | refine LeO.bind ?_ (fun _ => ?_)
theorem spec_LiveSum.mono : ∀ a0 a1 k, LeO (spec_LiveSum.f k a0 a1) (spec_LiveSum.f (k + 1) a0 a1) := by
  intro a0 a1 k
  have ih0 := spec_LiveSum.mono_l k
  unfold spec_LiveSum.f
  repeat' first
    | (with_reducible first | exact ih0 .. | exact spec_LiveOk.mono .. | exact LeO.refl _ | exact LeO.none _ | refine LeO.ite ?_ ?_ | refine LeO.bind ?_ (fun _ => ?_))
    | exact LeO.none _ | refine LeO.ite ?_ ?_ | refine LeO.bind ?_ (fun _ => ?_)
set_option maxHeartbeats 2000000 in
set_option maxRecDepth 100000 in
theorem spec_LiveSum.calls (k : Nat) (A0 : Option Addr) (c0 : Nat) (l0 : List (S37)) (a1 : Int) (r : Int) (w : World) (hr0 : Kd.C k37 w A0 l0.length l0) (hc0 : l0.length ≤ c0) (h : spec_LiveSum.f k l0 a1 = some r) :
    Calls Try.prog 20 #[.slice A0 l0.length c0, .int .i64 a1] w fun e w' => e = .returned (.int .i64 r) ∧ Below w.heap.size w w' := by
  have HR0 := Aside0.mk hr0
  have HC0 := Aside0.mk hc0
  clear hr0 hc0
  have HB := Aside0.mk (Below.refl w.heap.size w)
  unfold spec_LiveSum.f at h
  have H := h
  clear h
  replace H := bn H
  obtain ⟨t445, A3, H⟩ := H
  try dsimp only at H
  have HU4 := Aside0.mk H
  clear H
  go_enter Try.func20, Try.ntmps20
  go_upto_if 10 with (first | ((with_reducible refine gf 37 ?_); refine gl 37 Try.func37 (some 9) #[.slice A0 l0.length c0, .int .i64 a1] ?_; (with_reducible refine (spec_LiveOk.calls _ _ _ _ _ _ _ ?side1 ?side2 A3.out).mono ?_); (case side1 => repeat (first | exact HR0.out | (with_reducible refine Kd.C_alloc ?_ _) | (with_reducible refine Kd.C_drewN ?_ _) | (with_reducible refine Kd.C_drew ?_))); (case side2 => exact HC0.out); rintro e w5 ⟨rfl, hb⟩; refine ⟨_, rfl, ?_⟩; replace HB := hs hb; try clear hb))
  (try refine ap ?_)
  have H := HU4.out
  clear HU4
  replace H := ib H
  rcases H with ⟨rfl, H⟩ | ⟨rfl, H⟩
  · (try simp only [Bool.not_true, Bool.not_false])
    have H' := Aside0.mk H
    clear H
    go_wp2
    go_loopg [5, 6] k (fun kq v5 v6 w' => ∃ (x5_1 : Int) (x6_1 : Int), v5 = .int .i64 x5_1 ∧ v6 = .int .i64 x6_1 ∧ Aside0 (spec_LiveSum.l0 kq l0 x5_1 x6_1 = some r) ∧ Aside0 (kq ≤ k) ∧ Aside0 (Below w.heap.size w w'))
    case atStart => exact ⟨(0), (0), ev, ev, H', ⟨Nat.le_refl _⟩, ⟨bw⟩⟩
    case round =>
      clear H'
      try clear c6
      obtain ⟨x5_1, x6_1, rfl, rfl, HA, HK1, HB⟩ := hrel
      cases gk with
      | zero => exact absurd HA.out (by simp [spec_LiveSum.l0])
      | succ k1 =>
        have H := HA.out
        clear HA
        simp only [spec_LiveSum.l0] at H
        replace H := ilt H
        rcases H with ⟨c7b0, H⟩ | ⟨c7b0, H⟩
        · by_cases c8 : 0 ≤ x6_1
          · rw [if_pos c8] at H
            have c8b0 : decide (0 ≤ x6_1) = true := decide_eq_true c8
            clear c8
            have H' := Aside0.mk H
            clear H
            have p446 : 0 ≤ (x6_1 : Int) := of_decide_eq_true as_
            have q446 : x6_1 < (l0.length : Int) := of_decide_eq_true as_
            obtain ⟨ad446, e446, hx446_0, hx446_1⟩ := at_T37 HR0.out x6_1 p446 q446
            cases e446
            replace hx446_0 := cl HB hx446_0
            replace hx446_1 := cl HB hx446_1
            replace p446 := eq_true p446
            replace q446 := eq_true q446
            go_wp2
            go_roundg k1
            case measure => have := HK1.out; omega
            case rel => exact ⟨(wrap64 (x5_1 + ((rd_T37 l0 x6_1).f1))), (wrap64 (x6_1 + 1)), ev, ev, H', ⟨oa HK1⟩, ⟨bw⟩⟩
          · rw [if_neg c8] at H
            exact absurd H (by simp)
        · obtain rfl := Option.some.inj H
          go_wp2
          go_ret
          exact ⟨rt, bw⟩
  · (try simp only [Bool.not_true, Bool.not_false])
    obtain rfl := Option.some.inj H
    go_wp2
    go_ret
    exact ⟨rt, bw⟩

end Go.Proofs.Ytobboonnfocalaa.PB1
