/- What functions of the program compute, each as a Lean function, and that the run comes to just that. Conditions: none. (Laid by this session's own program.) -/
import Derived.Test.YtobboonnfocalaaT
import Derived.Test.YtobboonnfocalaaPB1x0
namespace Go.Proofs.Ytobboonnfocalaa.PB1
open Go.RowKit Go.Proofs.YtobboonnfocalaaW.PrintWords Go.Proofs.YtobboonnfocalaaW.PrintLast Go.Proofs.YtobboonnfocalaaW.PrintMore Go.Proofs.Ytobboonnfocalaa.T
attribute [local go_sem] max2_int min2_int max_two min_two max_three min_three max_four min_four   -- for this text's walks alone
set_option linter.unusedVariables false
set_option linter.unusedSimpArgs false

/-! ### laws_heldIntS: function 52 -/
def laws_heldIntS.l0 : Nat → List Int → Int → Int → Option (Int)
  | 0, _, _, _ => none
  | k + 1, x0, x1, x5 => if x5 < (x0.length : Int) then (if 0 ≤ x5 then (if (rd x0 x5) = x1 then (laws_heldIntS.l0 k x0 (wrap64 (x1 + 1)) (wrap64 (x5 + 1))) else (some (-1))) else (none)) else (some x1)
def laws_heldIntS.f (k : Nat) (l0 : List Int) (a1 : Int) : Option (Int) := laws_heldIntS.l0 k l0 a1 0
theorem laws_heldIntS.mono_l : ∀ k, (∀ y0 y1 y2, LeO (laws_heldIntS.l0 k y0 y1 y2) (laws_heldIntS.l0 (k + 1) y0 y1 y2))
  | 0 => fun _ _ _ r h => by simp [laws_heldIntS.l0] at h
  | k + 1 => by
    have ih0 := laws_heldIntS.mono_l k
    · intro y0 y1 y2
      unfold laws_heldIntS.l0
      repeat' first
        | (with_reducible first | exact ih0 .. | exact LeO.refl _ | exact LeO.none _ | refine LeO.ite ?_ ?_ | refine LeO.bind ?_ (fun _ => ?_))
        | exact LeO.none _ | refine LeO.ite ?_ ?_ | refine LeO.bind ?_ (fun _ => ?_)
theorem laws_heldIntS.mono : ∀ a0 a1 k, LeO (laws_heldIntS.f k a0 a1) (laws_heldIntS.f (k + 1) a0 a1) := by
  intro a0 a1 k
  have ih0 := laws_heldIntS.mono_l k
  unfold laws_heldIntS.f
  repeat' first
    | (with_reducible first | exact ih0 .. | exact LeO.refl _ | exact LeO.none _ | refine LeO.ite ?_ ?_ | refine LeO.bind ?_ (fun _ => ?_))
    | exact LeO.none _ | refine LeO.ite ?_ ?_ | refine LeO.bind ?_ (fun _ => ?_)
set_option maxHeartbeats 8000000 in
set_option maxRecDepth 100000 in
theorem laws_heldIntS.calls (k : Nat) (A0 : Option Addr) (c0 : Nat) (l0 : List Int) (a1 : Int) (r : Int) (w : World) (hr0 : Kd.C (Kd.int .i64) w A0 l0.length l0) (hc0 : l0.length ≤ c0) (h : laws_heldIntS.f k l0 a1 = some r) :
    Calls Try.prog 52 #[.slice A0 l0.length c0, .int .i64 a1] w fun e w' => e = .returned (.int .i64 r) ∧ Drawn0 w w' := by
  have HR0 := Aside0.mk hr0
  have HC0 := Aside0.mk hc0
  clear hr0 hc0
  unfold laws_heldIntS.f at h
  have H := h
  clear h
  have H' := Aside0.mk H
  clear H
  go_enter Try.func52, Try.ntmps52
  go_wp2
  go_loopg [1, 5] k (fun kq v1 v5 w' => ∃ (x1_1 : Int) (x5_1 : Int), v1 = .int .i64 x1_1 ∧ v5 = .int .i64 x5_1 ∧ Aside0 (laws_heldIntS.l0 kq l0 x1_1 x5_1 = some r) ∧ Aside0 (kq ≤ k) ∧ Drawn0 w w')
  case atStart => exact ⟨(a1), (0), ev, ev, H', ⟨Nat.le_refl _⟩, dr⟩
  case round =>
    clear H'
    obtain ⟨x1_1, x5_1, rfl, rfl, HA, HK1, ⟨m1, rfl⟩⟩ := hrel
    cases gk with
    | zero => exact absurd HA.out (by simp [laws_heldIntS.l0])
    | succ k1 =>
      have H := HA.out
      clear HA
      simp only [laws_heldIntS.l0] at H
      replace H := ilt H
      rcases H with ⟨c3b0, H⟩ | ⟨c3b0, H⟩
      · by_cases c4 : 0 ≤ x5_1
        · rw [if_pos c4] at H
          have c4b0 : decide (0 ≤ x5_1) = true := decide_eq_true c4
          clear c4
          replace H := ieq H
          rcases H with ⟨c5b0, c5b1, H⟩ | ⟨c5, c5b0, c5b1, H⟩
          · have H' := Aside0.mk H
            clear H
            have p189 : 0 ≤ (x5_1 : Int) := of_decide_eq_true as_
            have q189 : x5_1 < (l0.length : Int) := of_decide_eq_true as_
            obtain ⟨ad189, e189, hx189_0⟩ := Kd.at_int HR0.out x5_1 p189 q189
            cases e189
            replace p189 := eq_true p189
            replace q189 := eq_true q189
            go_wp2
            go_roundg k1
            case measure => have := HK1.out; omega
            case rel => exact ⟨(wrap64 (x1_1 + 1)), (wrap64 (x5_1 + 1)), ev, ev, H', ⟨oa HK1⟩, dr⟩
          · obtain rfl := Option.some.inj H
            have p189 : 0 ≤ (x5_1 : Int) := of_decide_eq_true as_
            have q189 : x5_1 < (l0.length : Int) := of_decide_eq_true as_
            obtain ⟨ad189, e189, hx189_0⟩ := Kd.at_int HR0.out x5_1 p189 q189
            cases e189
            replace p189 := eq_true p189
            replace q189 := eq_true q189
            go_wp2
            go_ret
            exact ⟨ev, dr⟩
        · rw [if_neg c4] at H
          exact absurd H (by simp)
      · obtain rfl := Option.some.inj H
        go_wp2
        go_ret
        exact ⟨ev, dr⟩

/-! ### laws_heldWarpS: function 30 -/
def laws_heldWarpS.l0 : Nat → List (S55) → Int → Int → Option (Int)
  | 0, _, _, _ => none
  | k + 1, x0, x1, x5 => if x5 < (x0.length : Int) then (if 0 ≤ x5 then (if ((rd_T55 x0 x5).f0) = x1 then ((laws_heldIntS.f k ((rd_T55 x0 x5).f1) (wrap64 (x1 + 1))).bind fun t192 => (if t192 < 0 then (some (-1)) else ((laws_heldIntS.f k ((rd_T55 x0 x5).f2) t192).bind fun t194 => (if t194 < 0 then (some (-1)) else (if ((rd_T55 x0 x5).f3) = ((t194) % 4294967296) then (if ((rd_T55 x0 x5).f4) = (wrap64 (t194 + 1)) then (if ((rd_T55 x0 x5).f5) = (wrap64 ((wrap64 (t194 + 1)) + 1)) then (if ((rd_T55 x0 x5).f6) = (wrap64 ((wrap64 ((wrap64 (t194 + 1)) + 1)) + 1)) then (if ((rd_T55 x0 x5).f7) = ((wrap64 ((wrap64 ((wrap64 ((wrap64 (t194 + 1)) + 1)) + 1)) + 1)) % 4294967296) then (laws_heldWarpS.l0 k x0 (wrap64 ((wrap64 ((wrap64 ((wrap64 ((wrap64 (t194 + 1)) + 1)) + 1)) + 1)) + 1)) (wrap64 (x5 + 1))) else (some (-1))) else (some (-1))) else (some (-1))) else (some (-1))) else (some (-1))))))) else (some (-1))) else (none)) else (some x1)
def laws_heldWarpS.f (k : Nat) (l0 : List (S55)) (a1 : Int) : Option (Int) := laws_heldWarpS.l0 k l0 a1 0
theorem laws_heldWarpS.mono_l : ∀ k, (∀ y0 y1 y2, LeO (laws_heldWarpS.l0 k y0 y1 y2) (laws_heldWarpS.l0 (k + 1) y0 y1 y2))
  | 0 => fun _ _ _ r h => by simp [laws_heldWarpS.l0] at h
  | k + 1 => by
    have ih0 := laws_heldWarpS.mono_l k
    · intro y0 y1 y2
      unfold laws_heldWarpS.l0
      repeat' first
        | (with_reducible first | exact ih0 .. | exact laws_heldIntS.mono .. | exact LeO.refl _ | exact LeO.none _ | refine LeO.ite ?_ ?_ | refine LeO.bind ?_ (fun _ => ?_))
        | exact LeO.none _ | refine LeO.ite ?_ ?_ | refine LeO.bind ?_ (fun _ => ?_)
theorem laws_heldWarpS.mono : ∀ a0 a1 k, LeO (laws_heldWarpS.f k a0 a1) (laws_heldWarpS.f (k + 1) a0 a1) := by
  intro a0 a1 k
  have ih0 := laws_heldWarpS.mono_l k
  unfold laws_heldWarpS.f
  repeat' first
    | (with_reducible first | exact ih0 .. | exact laws_heldIntS.mono .. | exact LeO.refl _ | exact LeO.none _ | refine LeO.ite ?_ ?_ | refine LeO.bind ?_ (fun _ => ?_))
    | exact LeO.none _ | refine LeO.ite ?_ ?_ | refine LeO.bind ?_ (fun _ => ?_)
set_option maxHeartbeats 8000000 in
set_option maxRecDepth 100000 in
theorem laws_heldWarpS.calls (k : Nat) (A0 : Option Addr) (c0 : Nat) (l0 : List (S55)) (a1 : Int) (r : Int) (w : World) (hr0 : Kd.C k55 w A0 l0.length l0) (hc0 : l0.length ≤ c0) (h : laws_heldWarpS.f k l0 a1 = some r) :
    Calls Try.prog 30 #[.slice A0 l0.length c0, .int .i64 a1] w fun e w' => e = .returned (.int .i64 r) ∧ Drawn0 w w' := by
  have HR0 := Aside0.mk hr0
  have HC0 := Aside0.mk hc0
  clear hr0 hc0
  unfold laws_heldWarpS.f at h
  have H := h
  clear h
  have H' := Aside0.mk H
  clear H
  go_enter Try.func30, Try.ntmps30
  go_wp2
  go_loopg [1, 5] k (fun kq v1 v5 w' => ∃ (x1_1 : Int) (x5_1 : Int), v1 = .int .i64 x1_1 ∧ v5 = .int .i64 x5_1 ∧ Aside0 (laws_heldWarpS.l0 kq l0 x1_1 x5_1 = some r) ∧ Aside0 (kq ≤ k) ∧ Drawn0 w w')
  case atStart => exact ⟨(a1), (0), ev, ev, H', ⟨Nat.le_refl _⟩, dr⟩
  case round =>
    clear H'
    obtain ⟨x1_1, x5_1, rfl, rfl, HA, HK1, ⟨m1, rfl⟩⟩ := hrel
    cases gk with
    | zero => exact absurd HA.out (by simp [laws_heldWarpS.l0])
    | succ k1 =>
      have H := HA.out
      clear HA
      simp only [laws_heldWarpS.l0] at H
      replace H := ilt H
      rcases H with ⟨c3b0, H⟩ | ⟨c3b0, H⟩
      · by_cases c4 : 0 ≤ x5_1
        · rw [if_pos c4] at H
          have c4b0 : decide (0 ≤ x5_1) = true := decide_eq_true c4
          clear c4
          replace H := ieq H
          rcases H with ⟨c5b0, c5b1, H⟩ | ⟨c5, c5b0, c5b1, H⟩
          · replace H := bn H
            obtain ⟨t192, A6, H⟩ := H
            try dsimp only at H
            have HU7 := Aside0.mk H
            clear H
            have p190 : 0 ≤ (x5_1 : Int) := of_decide_eq_true as_
            have q190 : x5_1 < (l0.length : Int) := of_decide_eq_true as_
            obtain ⟨ad190, A190_1, c190_1, A190_2, c190_2, e190, hx190_0, hx190_1, hx190_2, hx190_3, hx190_4, hx190_5, hx190_6, hx190_7, hl190_1, hi190_1, hl190_2, hi190_2⟩ := at_T55 HR0.out x5_1 p190 q190
            cases e190
            have HR190_1 := Aside0.mk hi190_1
            have HC190_1 := Aside0.mk hl190_1
            clear hi190_1 hl190_1
            have HR190_2 := Aside0.mk hi190_2
            have HC190_2 := Aside0.mk hl190_2
            clear hi190_2 hl190_2
            replace p190 := eq_true p190
            replace q190 := eq_true q190
            have p191 : 0 ≤ (x5_1 : Int) := of_decide_eq_true as_
            have q191 : x5_1 < (l0.length : Int) := of_decide_eq_true as_
            obtain ⟨ad191, A191_1, c191_1, A191_2, c191_2, e191, hx191_0, hx191_1, hx191_2, hx191_3, hx191_4, hx191_5, hx191_6, hx191_7, hl191_1, hi191_1, hl191_2, hi191_2⟩ := at_T55 HR0.out x5_1 p191 q191
            obtain rfl : ad190 = ad191 := (by injection e191)
            have HR191_1 := Aside0.mk hi191_1
            have HC191_1 := Aside0.mk hl191_1
            clear hi191_1 hl191_1
            have HR191_2 := Aside0.mk hi191_2
            have HC191_2 := Aside0.mk hl191_2
            clear hi191_2 hl191_2
            replace p191 := eq_true p191
            replace q191 := eq_true q191
            (try (have ea_ := Option.some.inj (hx190_1.symm.trans hx191_1); injection ea_ with ea_ en_ ec_; subst ea_; subst ec_; clear en_))
            (try (have ea_ := Option.some.inj (hx190_2.symm.trans hx191_2); injection ea_ with ea_ en_ ec_; subst ea_; subst ec_; clear en_))
            go_upto_if 29 with (first | ((with_reducible refine gf 52 ?_); refine gl 52 Try.func52 (some 27) #[.slice A190_1 ((rd_T55 l0 x5_1).f1).length c190_1, .int .i64 (wrap64 (x1_1 + 1))] ?_; (with_reducible refine (laws_heldIntS.calls _ _ _ _ _ _ _ ?side1 ?side2 A6.out).mono ?_); (case side1 => repeat (first | exact HR191_1.out | (with_reducible refine Kd.C_alloc ?_ _) | (with_reducible refine Kd.C_drewN ?_ _) | (with_reducible refine Kd.C_drew ?_))); (case side2 => exact HC191_1.out); rintro e w' ⟨rfl, ⟨nd, rfl⟩⟩; refine ⟨_, rfl, ?_⟩))
            (try refine ap ?_)
            have H := HU7.out
            clear HU7
            replace H := ilt H
            rcases H with ⟨c8b0, H⟩ | ⟨c8b0, H⟩
            · (first | rw [c8b0] | (simp only [i64_w, i32_w]; rw [c8b0]) | (simp only [c8b2, Bool.not_true, Bool.not_false]) | (simp only [c8b1, Bool.not_true, Bool.not_false]) | skip)
              obtain rfl := Option.some.inj H
              go_wp2
              go_ret
              exact ⟨ev, dr⟩
            · (first | rw [c8b0] | (simp only [i64_w, i32_w]; rw [c8b0]) | (simp only [c8b2, Bool.not_true, Bool.not_false]) | (simp only [c8b1, Bool.not_true, Bool.not_false]) | skip)
              replace H := bn H
              obtain ⟨t194, A9, H⟩ := H
              try dsimp only at H
              have HU10 := Aside0.mk H
              clear H
              have p193 : 0 ≤ (x5_1 : Int) := of_decide_eq_true as_
              have q193 : x5_1 < (l0.length : Int) := of_decide_eq_true as_
              obtain ⟨ad193, A193_1, c193_1, A193_2, c193_2, e193, hx193_0, hx193_1, hx193_2, hx193_3, hx193_4, hx193_5, hx193_6, hx193_7, hl193_1, hi193_1, hl193_2, hi193_2⟩ := at_T55 HR0.out x5_1 p193 q193
              obtain rfl : ad190 = ad193 := (by injection e193)
              have HR193_1 := Aside0.mk hi193_1
              have HC193_1 := Aside0.mk hl193_1
              clear hi193_1 hl193_1
              have HR193_2 := Aside0.mk hi193_2
              have HC193_2 := Aside0.mk hl193_2
              clear hi193_2 hl193_2
              replace p193 := eq_true p193
              replace q193 := eq_true q193
              (try (have ea_ := Option.some.inj (hx193_1.symm.trans hx190_1); injection ea_ with ea_ en_ ec_; subst ea_; subst ec_; clear en_))
              (try (have ea_ := Option.some.inj (hx193_2.symm.trans hx190_2); injection ea_ with ea_ en_ ec_; subst ea_; subst ec_; clear en_))
              go_upto_if 38 with (first | ((with_reducible refine gf 52 ?_); refine gl 52 Try.func52 (some 36) #[.slice A193_2 ((rd_T55 l0 x5_1).f2).length c193_2, .int .i64 t192] ?_; (with_reducible refine (laws_heldIntS.calls _ _ _ _ _ _ _ ?side1 ?side2 A9.out).mono ?_); (case side1 => repeat (first | exact HR193_2.out | (with_reducible refine Kd.C_alloc ?_ _) | (with_reducible refine Kd.C_drewN ?_ _) | (with_reducible refine Kd.C_drew ?_))); (case side2 => exact HC193_2.out); rintro e w' ⟨rfl, ⟨nd, rfl⟩⟩; refine ⟨_, rfl, ?_⟩))
              (try refine ap ?_)
              have H := HU10.out
              clear HU10
              replace H := ilt H
              rcases H with ⟨c11b0, H⟩ | ⟨c11b0, H⟩
              · (first | rw [c11b0] | (simp only [i64_w, i32_w]; rw [c11b0]) | (simp only [c11b2, Bool.not_true, Bool.not_false]) | (simp only [c11b1, Bool.not_true, Bool.not_false]) | skip)
                obtain rfl := Option.some.inj H
                go_wp2
                go_ret
                exact ⟨ev, dr⟩
              · (first | rw [c11b0] | (simp only [i64_w, i32_w]; rw [c11b0]) | (simp only [c11b2, Bool.not_true, Bool.not_false]) | (simp only [c11b1, Bool.not_true, Bool.not_false]) | skip)
                replace H := ieq H
                rcases H with ⟨c12b0, c12b1, H⟩ | ⟨c12, c12b0, c12b1, H⟩
                · replace H := ieq H
                  rcases H with ⟨c13b0, c13b1, H⟩ | ⟨c13, c13b0, c13b1, H⟩
                  · replace H := ieq H
                    rcases H with ⟨c14b0, c14b1, H⟩ | ⟨c14, c14b0, c14b1, H⟩
                    · replace H := ieq H
                      rcases H with ⟨c15b0, c15b1, H⟩ | ⟨c15, c15b0, c15b1, H⟩
                      · replace H := ieq H
                        rcases H with ⟨c16b0, c16b1, H⟩ | ⟨c16, c16b0, c16b1, H⟩
                        · have H' := Aside0.mk H
                          clear H
                          have p195 : 0 ≤ (x5_1 : Int) := of_decide_eq_true as_
                          have q195 : x5_1 < (l0.length : Int) := of_decide_eq_true as_
                          obtain ⟨ad195, A195_1, c195_1, A195_2, c195_2, e195, hx195_0, hx195_1, hx195_2, hx195_3, hx195_4, hx195_5, hx195_6, hx195_7, hl195_1, hi195_1, hl195_2, hi195_2⟩ := at_T55 HR0.out x5_1 p195 q195
                          obtain rfl : ad190 = ad195 := (by injection e195)
                          have HR195_1 := Aside0.mk hi195_1
                          have HC195_1 := Aside0.mk hl195_1
                          clear hi195_1 hl195_1
                          have HR195_2 := Aside0.mk hi195_2
                          have HC195_2 := Aside0.mk hl195_2
                          clear hi195_2 hl195_2
                          replace p195 := eq_true p195
                          replace q195 := eq_true q195
                          (try (have ea_ := Option.some.inj (hx195_1.symm.trans hx190_1); injection ea_ with ea_ en_ ec_; subst ea_; subst ec_; clear en_))
                          (try (have ea_ := Option.some.inj (hx195_2.symm.trans hx190_2); injection ea_ with ea_ en_ ec_; subst ea_; subst ec_; clear en_))
                          have p196 : 0 ≤ (x5_1 : Int) := of_decide_eq_true as_
                          have q196 : x5_1 < (l0.length : Int) := of_decide_eq_true as_
                          obtain ⟨ad196, A196_1, c196_1, A196_2, c196_2, e196, hx196_0, hx196_1, hx196_2, hx196_3, hx196_4, hx196_5, hx196_6, hx196_7, hl196_1, hi196_1, hl196_2, hi196_2⟩ := at_T55 HR0.out x5_1 p196 q196
                          obtain rfl : ad190 = ad196 := (by injection e196)
                          have HR196_1 := Aside0.mk hi196_1
                          have HC196_1 := Aside0.mk hl196_1
                          clear hi196_1 hl196_1
                          have HR196_2 := Aside0.mk hi196_2
                          have HC196_2 := Aside0.mk hl196_2
                          clear hi196_2 hl196_2
                          replace p196 := eq_true p196
                          replace q196 := eq_true q196
                          (try (have ea_ := Option.some.inj (hx195_1.symm.trans hx196_1); injection ea_ with ea_ en_ ec_; subst ea_; subst ec_; clear en_))
                          (try (have ea_ := Option.some.inj (hx195_2.symm.trans hx196_2); injection ea_ with ea_ en_ ec_; subst ea_; subst ec_; clear en_))
                          have p197 : 0 ≤ (x5_1 : Int) := of_decide_eq_true as_
                          have q197 : x5_1 < (l0.length : Int) := of_decide_eq_true as_
                          obtain ⟨ad197, A197_1, c197_1, A197_2, c197_2, e197, hx197_0, hx197_1, hx197_2, hx197_3, hx197_4, hx197_5, hx197_6, hx197_7, hl197_1, hi197_1, hl197_2, hi197_2⟩ := at_T55 HR0.out x5_1 p197 q197
                          obtain rfl : ad190 = ad197 := (by injection e197)
                          have HR197_1 := Aside0.mk hi197_1
                          have HC197_1 := Aside0.mk hl197_1
                          clear hi197_1 hl197_1
                          have HR197_2 := Aside0.mk hi197_2
                          have HC197_2 := Aside0.mk hl197_2
                          clear hi197_2 hl197_2
                          replace p197 := eq_true p197
                          replace q197 := eq_true q197
                          (try (have ea_ := Option.some.inj (hx195_1.symm.trans hx197_1); injection ea_ with ea_ en_ ec_; subst ea_; subst ec_; clear en_))
                          (try (have ea_ := Option.some.inj (hx195_2.symm.trans hx197_2); injection ea_ with ea_ en_ ec_; subst ea_; subst ec_; clear en_))
                          have p198 : 0 ≤ (x5_1 : Int) := of_decide_eq_true as_
                          have q198 : x5_1 < (l0.length : Int) := of_decide_eq_true as_
                          obtain ⟨ad198, A198_1, c198_1, A198_2, c198_2, e198, hx198_0, hx198_1, hx198_2, hx198_3, hx198_4, hx198_5, hx198_6, hx198_7, hl198_1, hi198_1, hl198_2, hi198_2⟩ := at_T55 HR0.out x5_1 p198 q198
                          obtain rfl : ad190 = ad198 := (by injection e198)
                          have HR198_1 := Aside0.mk hi198_1
                          have HC198_1 := Aside0.mk hl198_1
                          clear hi198_1 hl198_1
                          have HR198_2 := Aside0.mk hi198_2
                          have HC198_2 := Aside0.mk hl198_2
                          clear hi198_2 hl198_2
                          replace p198 := eq_true p198
                          replace q198 := eq_true q198
                          (try (have ea_ := Option.some.inj (hx195_1.symm.trans hx198_1); injection ea_ with ea_ en_ ec_; subst ea_; subst ec_; clear en_))
                          (try (have ea_ := Option.some.inj (hx195_2.symm.trans hx198_2); injection ea_ with ea_ en_ ec_; subst ea_; subst ec_; clear en_))
                          have p199 : 0 ≤ (x5_1 : Int) := of_decide_eq_true as_
                          have q199 : x5_1 < (l0.length : Int) := of_decide_eq_true as_
                          obtain ⟨ad199, A199_1, c199_1, A199_2, c199_2, e199, hx199_0, hx199_1, hx199_2, hx199_3, hx199_4, hx199_5, hx199_6, hx199_7, hl199_1, hi199_1, hl199_2, hi199_2⟩ := at_T55 HR0.out x5_1 p199 q199
                          obtain rfl : ad190 = ad199 := (by injection e199)
                          have HR199_1 := Aside0.mk hi199_1
                          have HC199_1 := Aside0.mk hl199_1
                          clear hi199_1 hl199_1
                          have HR199_2 := Aside0.mk hi199_2
                          have HC199_2 := Aside0.mk hl199_2
                          clear hi199_2 hl199_2
                          replace p199 := eq_true p199
                          replace q199 := eq_true q199
                          (try (have ea_ := Option.some.inj (hx195_1.symm.trans hx199_1); injection ea_ with ea_ en_ ec_; subst ea_; subst ec_; clear en_))
                          (try (have ea_ := Option.some.inj (hx195_2.symm.trans hx199_2); injection ea_ with ea_ en_ ec_; subst ea_; subst ec_; clear en_))
                          go_wp2
                          go_roundg k1
                          case measure => have := HK1.out; omega
                          case rel => exact ⟨(wrap64 ((wrap64 ((wrap64 ((wrap64 ((wrap64 (t194 + 1)) + 1)) + 1)) + 1)) + 1)), (wrap64 (x5_1 + 1)), ev, ev, H', ⟨oa HK1⟩, dr⟩
                        · obtain rfl := Option.some.inj H
                          have p195 : 0 ≤ (x5_1 : Int) := of_decide_eq_true as_
                          have q195 : x5_1 < (l0.length : Int) := of_decide_eq_true as_
                          obtain ⟨ad195, A195_1, c195_1, A195_2, c195_2, e195, hx195_0, hx195_1, hx195_2, hx195_3, hx195_4, hx195_5, hx195_6, hx195_7, hl195_1, hi195_1, hl195_2, hi195_2⟩ := at_T55 HR0.out x5_1 p195 q195
                          obtain rfl : ad190 = ad195 := (by injection e195)
                          have HR195_1 := Aside0.mk hi195_1
                          have HC195_1 := Aside0.mk hl195_1
                          clear hi195_1 hl195_1
                          have HR195_2 := Aside0.mk hi195_2
                          have HC195_2 := Aside0.mk hl195_2
                          clear hi195_2 hl195_2
                          replace p195 := eq_true p195
                          replace q195 := eq_true q195
                          (try (have ea_ := Option.some.inj (hx195_1.symm.trans hx190_1); injection ea_ with ea_ en_ ec_; subst ea_; subst ec_; clear en_))
                          (try (have ea_ := Option.some.inj (hx195_2.symm.trans hx190_2); injection ea_ with ea_ en_ ec_; subst ea_; subst ec_; clear en_))
                          have p196 : 0 ≤ (x5_1 : Int) := of_decide_eq_true as_
                          have q196 : x5_1 < (l0.length : Int) := of_decide_eq_true as_
                          obtain ⟨ad196, A196_1, c196_1, A196_2, c196_2, e196, hx196_0, hx196_1, hx196_2, hx196_3, hx196_4, hx196_5, hx196_6, hx196_7, hl196_1, hi196_1, hl196_2, hi196_2⟩ := at_T55 HR0.out x5_1 p196 q196
                          obtain rfl : ad190 = ad196 := (by injection e196)
                          have HR196_1 := Aside0.mk hi196_1
                          have HC196_1 := Aside0.mk hl196_1
                          clear hi196_1 hl196_1
                          have HR196_2 := Aside0.mk hi196_2
                          have HC196_2 := Aside0.mk hl196_2
                          clear hi196_2 hl196_2
                          replace p196 := eq_true p196
                          replace q196 := eq_true q196
                          (try (have ea_ := Option.some.inj (hx195_1.symm.trans hx196_1); injection ea_ with ea_ en_ ec_; subst ea_; subst ec_; clear en_))
                          (try (have ea_ := Option.some.inj (hx195_2.symm.trans hx196_2); injection ea_ with ea_ en_ ec_; subst ea_; subst ec_; clear en_))
                          have p197 : 0 ≤ (x5_1 : Int) := of_decide_eq_true as_
                          have q197 : x5_1 < (l0.length : Int) := of_decide_eq_true as_
                          obtain ⟨ad197, A197_1, c197_1, A197_2, c197_2, e197, hx197_0, hx197_1, hx197_2, hx197_3, hx197_4, hx197_5, hx197_6, hx197_7, hl197_1, hi197_1, hl197_2, hi197_2⟩ := at_T55 HR0.out x5_1 p197 q197
                          obtain rfl : ad190 = ad197 := (by injection e197)
                          have HR197_1 := Aside0.mk hi197_1
                          have HC197_1 := Aside0.mk hl197_1
                          clear hi197_1 hl197_1
                          have HR197_2 := Aside0.mk hi197_2
                          have HC197_2 := Aside0.mk hl197_2
                          clear hi197_2 hl197_2
                          replace p197 := eq_true p197
                          replace q197 := eq_true q197
                          (try (have ea_ := Option.some.inj (hx195_1.symm.trans hx197_1); injection ea_ with ea_ en_ ec_; subst ea_; subst ec_; clear en_))
                          (try (have ea_ := Option.some.inj (hx195_2.symm.trans hx197_2); injection ea_ with ea_ en_ ec_; subst ea_; subst ec_; clear en_))
                          have p198 : 0 ≤ (x5_1 : Int) := of_decide_eq_true as_
                          have q198 : x5_1 < (l0.length : Int) := of_decide_eq_true as_
                          obtain ⟨ad198, A198_1, c198_1, A198_2, c198_2, e198, hx198_0, hx198_1, hx198_2, hx198_3, hx198_4, hx198_5, hx198_6, hx198_7, hl198_1, hi198_1, hl198_2, hi198_2⟩ := at_T55 HR0.out x5_1 p198 q198
                          obtain rfl : ad190 = ad198 := (by injection e198)
                          have HR198_1 := Aside0.mk hi198_1
                          have HC198_1 := Aside0.mk hl198_1
                          clear hi198_1 hl198_1
                          have HR198_2 := Aside0.mk hi198_2
                          have HC198_2 := Aside0.mk hl198_2
                          clear hi198_2 hl198_2
                          replace p198 := eq_true p198
                          replace q198 := eq_true q198
                          (try (have ea_ := Option.some.inj (hx195_1.symm.trans hx198_1); injection ea_ with ea_ en_ ec_; subst ea_; subst ec_; clear en_))
                          (try (have ea_ := Option.some.inj (hx195_2.symm.trans hx198_2); injection ea_ with ea_ en_ ec_; subst ea_; subst ec_; clear en_))
                          have p199 : 0 ≤ (x5_1 : Int) := of_decide_eq_true as_
                          have q199 : x5_1 < (l0.length : Int) := of_decide_eq_true as_
                          obtain ⟨ad199, A199_1, c199_1, A199_2, c199_2, e199, hx199_0, hx199_1, hx199_2, hx199_3, hx199_4, hx199_5, hx199_6, hx199_7, hl199_1, hi199_1, hl199_2, hi199_2⟩ := at_T55 HR0.out x5_1 p199 q199
                          obtain rfl : ad190 = ad199 := (by injection e199)
                          have HR199_1 := Aside0.mk hi199_1
                          have HC199_1 := Aside0.mk hl199_1
                          clear hi199_1 hl199_1
                          have HR199_2 := Aside0.mk hi199_2
                          have HC199_2 := Aside0.mk hl199_2
                          clear hi199_2 hl199_2
                          replace p199 := eq_true p199
                          replace q199 := eq_true q199
                          (try (have ea_ := Option.some.inj (hx195_1.symm.trans hx199_1); injection ea_ with ea_ en_ ec_; subst ea_; subst ec_; clear en_))
                          (try (have ea_ := Option.some.inj (hx195_2.symm.trans hx199_2); injection ea_ with ea_ en_ ec_; subst ea_; subst ec_; clear en_))
                          go_wp2
                          go_ret
                          exact ⟨ev, dr⟩
                      · obtain rfl := Option.some.inj H
                        have p195 : 0 ≤ (x5_1 : Int) := of_decide_eq_true as_
                        have q195 : x5_1 < (l0.length : Int) := of_decide_eq_true as_
                        obtain ⟨ad195, A195_1, c195_1, A195_2, c195_2, e195, hx195_0, hx195_1, hx195_2, hx195_3, hx195_4, hx195_5, hx195_6, hx195_7, hl195_1, hi195_1, hl195_2, hi195_2⟩ := at_T55 HR0.out x5_1 p195 q195
                        obtain rfl : ad190 = ad195 := (by injection e195)
                        have HR195_1 := Aside0.mk hi195_1
                        have HC195_1 := Aside0.mk hl195_1
                        clear hi195_1 hl195_1
                        have HR195_2 := Aside0.mk hi195_2
                        have HC195_2 := Aside0.mk hl195_2
                        clear hi195_2 hl195_2
                        replace p195 := eq_true p195
                        replace q195 := eq_true q195
                        (try (have ea_ := Option.some.inj (hx195_1.symm.trans hx190_1); injection ea_ with ea_ en_ ec_; subst ea_; subst ec_; clear en_))
                        (try (have ea_ := Option.some.inj (hx195_2.symm.trans hx190_2); injection ea_ with ea_ en_ ec_; subst ea_; subst ec_; clear en_))
                        have p196 : 0 ≤ (x5_1 : Int) := of_decide_eq_true as_
                        have q196 : x5_1 < (l0.length : Int) := of_decide_eq_true as_
                        obtain ⟨ad196, A196_1, c196_1, A196_2, c196_2, e196, hx196_0, hx196_1, hx196_2, hx196_3, hx196_4, hx196_5, hx196_6, hx196_7, hl196_1, hi196_1, hl196_2, hi196_2⟩ := at_T55 HR0.out x5_1 p196 q196
                        obtain rfl : ad190 = ad196 := (by injection e196)
                        have HR196_1 := Aside0.mk hi196_1
                        have HC196_1 := Aside0.mk hl196_1
                        clear hi196_1 hl196_1
                        have HR196_2 := Aside0.mk hi196_2
                        have HC196_2 := Aside0.mk hl196_2
                        clear hi196_2 hl196_2
                        replace p196 := eq_true p196
                        replace q196 := eq_true q196
                        (try (have ea_ := Option.some.inj (hx195_1.symm.trans hx196_1); injection ea_ with ea_ en_ ec_; subst ea_; subst ec_; clear en_))
                        (try (have ea_ := Option.some.inj (hx195_2.symm.trans hx196_2); injection ea_ with ea_ en_ ec_; subst ea_; subst ec_; clear en_))
                        have p197 : 0 ≤ (x5_1 : Int) := of_decide_eq_true as_
                        have q197 : x5_1 < (l0.length : Int) := of_decide_eq_true as_
                        obtain ⟨ad197, A197_1, c197_1, A197_2, c197_2, e197, hx197_0, hx197_1, hx197_2, hx197_3, hx197_4, hx197_5, hx197_6, hx197_7, hl197_1, hi197_1, hl197_2, hi197_2⟩ := at_T55 HR0.out x5_1 p197 q197
                        obtain rfl : ad190 = ad197 := (by injection e197)
                        have HR197_1 := Aside0.mk hi197_1
                        have HC197_1 := Aside0.mk hl197_1
                        clear hi197_1 hl197_1
                        have HR197_2 := Aside0.mk hi197_2
                        have HC197_2 := Aside0.mk hl197_2
                        clear hi197_2 hl197_2
                        replace p197 := eq_true p197
                        replace q197 := eq_true q197
                        (try (have ea_ := Option.some.inj (hx195_1.symm.trans hx197_1); injection ea_ with ea_ en_ ec_; subst ea_; subst ec_; clear en_))
                        (try (have ea_ := Option.some.inj (hx195_2.symm.trans hx197_2); injection ea_ with ea_ en_ ec_; subst ea_; subst ec_; clear en_))
                        have p198 : 0 ≤ (x5_1 : Int) := of_decide_eq_true as_
                        have q198 : x5_1 < (l0.length : Int) := of_decide_eq_true as_
                        obtain ⟨ad198, A198_1, c198_1, A198_2, c198_2, e198, hx198_0, hx198_1, hx198_2, hx198_3, hx198_4, hx198_5, hx198_6, hx198_7, hl198_1, hi198_1, hl198_2, hi198_2⟩ := at_T55 HR0.out x5_1 p198 q198
                        obtain rfl : ad190 = ad198 := (by injection e198)
                        have HR198_1 := Aside0.mk hi198_1
                        have HC198_1 := Aside0.mk hl198_1
                        clear hi198_1 hl198_1
                        have HR198_2 := Aside0.mk hi198_2
                        have HC198_2 := Aside0.mk hl198_2
                        clear hi198_2 hl198_2
                        replace p198 := eq_true p198
                        replace q198 := eq_true q198
                        (try (have ea_ := Option.some.inj (hx195_1.symm.trans hx198_1); injection ea_ with ea_ en_ ec_; subst ea_; subst ec_; clear en_))
                        (try (have ea_ := Option.some.inj (hx195_2.symm.trans hx198_2); injection ea_ with ea_ en_ ec_; subst ea_; subst ec_; clear en_))
                        go_wp2
                        go_ret
                        exact ⟨ev, dr⟩
                    · obtain rfl := Option.some.inj H
                      have p195 : 0 ≤ (x5_1 : Int) := of_decide_eq_true as_
                      have q195 : x5_1 < (l0.length : Int) := of_decide_eq_true as_
                      obtain ⟨ad195, A195_1, c195_1, A195_2, c195_2, e195, hx195_0, hx195_1, hx195_2, hx195_3, hx195_4, hx195_5, hx195_6, hx195_7, hl195_1, hi195_1, hl195_2, hi195_2⟩ := at_T55 HR0.out x5_1 p195 q195
                      obtain rfl : ad190 = ad195 := (by injection e195)
                      have HR195_1 := Aside0.mk hi195_1
                      have HC195_1 := Aside0.mk hl195_1
                      clear hi195_1 hl195_1
                      have HR195_2 := Aside0.mk hi195_2
                      have HC195_2 := Aside0.mk hl195_2
                      clear hi195_2 hl195_2
                      replace p195 := eq_true p195
                      replace q195 := eq_true q195
                      (try (have ea_ := Option.some.inj (hx195_1.symm.trans hx190_1); injection ea_ with ea_ en_ ec_; subst ea_; subst ec_; clear en_))
                      (try (have ea_ := Option.some.inj (hx195_2.symm.trans hx190_2); injection ea_ with ea_ en_ ec_; subst ea_; subst ec_; clear en_))
                      have p196 : 0 ≤ (x5_1 : Int) := of_decide_eq_true as_
                      have q196 : x5_1 < (l0.length : Int) := of_decide_eq_true as_
                      obtain ⟨ad196, A196_1, c196_1, A196_2, c196_2, e196, hx196_0, hx196_1, hx196_2, hx196_3, hx196_4, hx196_5, hx196_6, hx196_7, hl196_1, hi196_1, hl196_2, hi196_2⟩ := at_T55 HR0.out x5_1 p196 q196
                      obtain rfl : ad190 = ad196 := (by injection e196)
                      have HR196_1 := Aside0.mk hi196_1
                      have HC196_1 := Aside0.mk hl196_1
                      clear hi196_1 hl196_1
                      have HR196_2 := Aside0.mk hi196_2
                      have HC196_2 := Aside0.mk hl196_2
                      clear hi196_2 hl196_2
                      replace p196 := eq_true p196
                      replace q196 := eq_true q196
                      (try (have ea_ := Option.some.inj (hx195_1.symm.trans hx196_1); injection ea_ with ea_ en_ ec_; subst ea_; subst ec_; clear en_))
                      (try (have ea_ := Option.some.inj (hx195_2.symm.trans hx196_2); injection ea_ with ea_ en_ ec_; subst ea_; subst ec_; clear en_))
                      have p197 : 0 ≤ (x5_1 : Int) := of_decide_eq_true as_
                      have q197 : x5_1 < (l0.length : Int) := of_decide_eq_true as_
                      obtain ⟨ad197, A197_1, c197_1, A197_2, c197_2, e197, hx197_0, hx197_1, hx197_2, hx197_3, hx197_4, hx197_5, hx197_6, hx197_7, hl197_1, hi197_1, hl197_2, hi197_2⟩ := at_T55 HR0.out x5_1 p197 q197
                      obtain rfl : ad190 = ad197 := (by injection e197)
                      have HR197_1 := Aside0.mk hi197_1
                      have HC197_1 := Aside0.mk hl197_1
                      clear hi197_1 hl197_1
                      have HR197_2 := Aside0.mk hi197_2
                      have HC197_2 := Aside0.mk hl197_2
                      clear hi197_2 hl197_2
                      replace p197 := eq_true p197
                      replace q197 := eq_true q197
                      (try (have ea_ := Option.some.inj (hx195_1.symm.trans hx197_1); injection ea_ with ea_ en_ ec_; subst ea_; subst ec_; clear en_))
                      (try (have ea_ := Option.some.inj (hx195_2.symm.trans hx197_2); injection ea_ with ea_ en_ ec_; subst ea_; subst ec_; clear en_))
                      go_wp2
                      go_ret
                      exact ⟨ev, dr⟩
                  · obtain rfl := Option.some.inj H
                    have p195 : 0 ≤ (x5_1 : Int) := of_decide_eq_true as_
                    have q195 : x5_1 < (l0.length : Int) := of_decide_eq_true as_
                    obtain ⟨ad195, A195_1, c195_1, A195_2, c195_2, e195, hx195_0, hx195_1, hx195_2, hx195_3, hx195_4, hx195_5, hx195_6, hx195_7, hl195_1, hi195_1, hl195_2, hi195_2⟩ := at_T55 HR0.out x5_1 p195 q195
                    obtain rfl : ad190 = ad195 := (by injection e195)
                    have HR195_1 := Aside0.mk hi195_1
                    have HC195_1 := Aside0.mk hl195_1
                    clear hi195_1 hl195_1
                    have HR195_2 := Aside0.mk hi195_2
                    have HC195_2 := Aside0.mk hl195_2
                    clear hi195_2 hl195_2
                    replace p195 := eq_true p195
                    replace q195 := eq_true q195
                    (try (have ea_ := Option.some.inj (hx195_1.symm.trans hx190_1); injection ea_ with ea_ en_ ec_; subst ea_; subst ec_; clear en_))
                    (try (have ea_ := Option.some.inj (hx195_2.symm.trans hx190_2); injection ea_ with ea_ en_ ec_; subst ea_; subst ec_; clear en_))
                    have p196 : 0 ≤ (x5_1 : Int) := of_decide_eq_true as_
                    have q196 : x5_1 < (l0.length : Int) := of_decide_eq_true as_
                    obtain ⟨ad196, A196_1, c196_1, A196_2, c196_2, e196, hx196_0, hx196_1, hx196_2, hx196_3, hx196_4, hx196_5, hx196_6, hx196_7, hl196_1, hi196_1, hl196_2, hi196_2⟩ := at_T55 HR0.out x5_1 p196 q196
                    obtain rfl : ad190 = ad196 := (by injection e196)
                    have HR196_1 := Aside0.mk hi196_1
                    have HC196_1 := Aside0.mk hl196_1
                    clear hi196_1 hl196_1
                    have HR196_2 := Aside0.mk hi196_2
                    have HC196_2 := Aside0.mk hl196_2
                    clear hi196_2 hl196_2
                    replace p196 := eq_true p196
                    replace q196 := eq_true q196
                    (try (have ea_ := Option.some.inj (hx195_1.symm.trans hx196_1); injection ea_ with ea_ en_ ec_; subst ea_; subst ec_; clear en_))
                    (try (have ea_ := Option.some.inj (hx195_2.symm.trans hx196_2); injection ea_ with ea_ en_ ec_; subst ea_; subst ec_; clear en_))
                    go_wp2
                    go_ret
                    exact ⟨ev, dr⟩
                · obtain rfl := Option.some.inj H
                  have p195 : 0 ≤ (x5_1 : Int) := of_decide_eq_true as_
                  have q195 : x5_1 < (l0.length : Int) := of_decide_eq_true as_
                  obtain ⟨ad195, A195_1, c195_1, A195_2, c195_2, e195, hx195_0, hx195_1, hx195_2, hx195_3, hx195_4, hx195_5, hx195_6, hx195_7, hl195_1, hi195_1, hl195_2, hi195_2⟩ := at_T55 HR0.out x5_1 p195 q195
                  obtain rfl : ad190 = ad195 := (by injection e195)
                  have HR195_1 := Aside0.mk hi195_1
                  have HC195_1 := Aside0.mk hl195_1
                  clear hi195_1 hl195_1
                  have HR195_2 := Aside0.mk hi195_2
                  have HC195_2 := Aside0.mk hl195_2
                  clear hi195_2 hl195_2
                  replace p195 := eq_true p195
                  replace q195 := eq_true q195
                  (try (have ea_ := Option.some.inj (hx195_1.symm.trans hx190_1); injection ea_ with ea_ en_ ec_; subst ea_; subst ec_; clear en_))
                  (try (have ea_ := Option.some.inj (hx195_2.symm.trans hx190_2); injection ea_ with ea_ en_ ec_; subst ea_; subst ec_; clear en_))
                  go_wp2
                  go_ret
                  exact ⟨ev, dr⟩
          · obtain rfl := Option.some.inj H
            have p190 : 0 ≤ (x5_1 : Int) := of_decide_eq_true as_
            have q190 : x5_1 < (l0.length : Int) := of_decide_eq_true as_
            obtain ⟨ad190, A190_1, c190_1, A190_2, c190_2, e190, hx190_0, hx190_1, hx190_2, hx190_3, hx190_4, hx190_5, hx190_6, hx190_7, hl190_1, hi190_1, hl190_2, hi190_2⟩ := at_T55 HR0.out x5_1 p190 q190
            cases e190
            have HR190_1 := Aside0.mk hi190_1
            have HC190_1 := Aside0.mk hl190_1
            clear hi190_1 hl190_1
            have HR190_2 := Aside0.mk hi190_2
            have HC190_2 := Aside0.mk hl190_2
            clear hi190_2 hl190_2
            replace p190 := eq_true p190
            replace q190 := eq_true q190
            go_wp2
            go_ret
            exact ⟨ev, dr⟩
        · rw [if_neg c4] at H
          exact absurd H (by simp)
      · obtain rfl := Option.some.inj H
        go_wp2
        go_ret
        exact ⟨ev, dr⟩

end Go.Proofs.Ytobboonnfocalaa.PB1
