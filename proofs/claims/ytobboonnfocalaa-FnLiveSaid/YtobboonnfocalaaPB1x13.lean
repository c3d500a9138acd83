/- What functions of the program compute, each as a Lean function, and that the run comes to just that. Conditions: none. (Laid by this session's own program.) -/
import Derived.Test.YtobboonnfocalaaT
import Derived.Test.YtobboonnfocalaaT2
import Derived.Test.YtobboonnfocalaaPB1x0
import Derived.Test.YtobboonnfocalaaPB1x1
import Derived.Test.YtobboonnfocalaaPB1x2
namespace Go.Proofs.Ytobboonnfocalaa.PB1
open Go.RowKit Go.Proofs.YtobboonnfocalaaW.PrintWords Go.Proofs.YtobboonnfocalaaW.PrintLast Go.Proofs.YtobboonnfocalaaW.PrintMore Go.Proofs.Ytobboonnfocalaa.T
attribute [local go_sem] max2_int min2_int max_two min_two max_three min_three max_four min_four   -- for this text's walks alone
set_option linter.unusedVariables false
set_option linter.unusedSimpArgs false

attribute [local go_sem high] eqA37
/-! ### impl_areLive: function 38 -/
mutual
def impl_areLive.j0 : Nat → List (S37) → Int → Bool → Option (Bool)
  | 0, _, _, _ => none
  | k + 1, x0, x1, x15 => if x15 = true then (some false) else (impl_areLive.l0 k x1 0 x0 (x0.length : Int) 0)
def impl_areLive.l0 : Nat → Int → Int → List (S37) → Int → Int → Option (Bool)
  | 0, _, _, _, _, _ => none
  | k + 1, x1, x5, x16, x17, x18 => if x18 < x17 then (if 0 ≤ x18 then (if x18 < (x16.length : Int) then ((impl_within.f ((rd_T37 x16 x18).f1) 1 x1).bind fun t413 => (if t413 = true then ((impl_within.f ((rd_T37 x16 x18).f0) x5 (wrap64 (x1 - ((rd_T37 x16 x18).f1)))).bind fun t414 => (if t414 = true then (impl_areLive.l0 k x1 (wrap64 (((rd_T37 x16 x18).f0) + ((rd_T37 x16 x18).f1))) x16 x17 (wrap64 (x18 + 1))) else (some false))) else (some false))) else (none)) else (none)) else (some true)
end
def impl_areLive.f (k : Nat) (l0 : List (S37)) (a1 : Int) : Option (Bool) := (impl_within.f a1 0 256).bind fun t410 => (if t410 = true then (impl_areLive.j0 k l0 a1 (decide ((l0.length : Int) > 300))) else (impl_areLive.j0 k l0 a1 true))
theorem impl_areLive.mono_l : ∀ k, (∀ y0 y1 y2, LeO (impl_areLive.j0 k y0 y1 y2) (impl_areLive.j0 (k + 1) y0 y1 y2)) ∧ (∀ y0 y1 y2 y3 y4, LeO (impl_areLive.l0 k y0 y1 y2 y3 y4) (impl_areLive.l0 (k + 1) y0 y1 y2 y3 y4))
  | 0 => ⟨fun _ _ _ r h => by simp [impl_areLive.j0] at h, fun _ _ _ _ _ r h => by simp [impl_areLive.l0] at h⟩
  | k + 1 => by
    obtain ⟨ih0, ih1⟩ := impl_areLive.mono_l k
    refine ⟨?_, ?_⟩
    · intro y0 y1 y2
      unfold impl_areLive.j0
      repeat' first
        | (with_reducible first | exact ih0 .. | exact ih1 .. | exact LeO.refl _ | exact LeO.none _ | refine LeO.ite ?_ ?_ | refine LeO.bind ?_ (fun _ => ?_))
        | exact LeO.none _ | refine LeO.ite ?_ ?_ | refine LeO.bind ?_ (fun _ => ?_)
    · intro y0 y1 y2 y3 y4
      unfold impl_areLive.l0
      repeat' first
        | (with_reducible first | exact ih0 .. | exact ih1 .. | exact LeO.refl _ | exact LeO.none _ | refine LeO.ite ?_ ?_ | refine LeO.bind ?_ (fun _ => ?_))
        | exact LeO.none _ | refine LeO.ite ?_ ?_ | refine LeO.bind ?_ (fun _ => ?_)
theorem impl_areLive.mono : ∀ a0 a1 k, LeO (impl_areLive.f k a0 a1) (impl_areLive.f (k + 1) a0 a1) := by
  intro a0 a1 k
  obtain ⟨ih0, ih1⟩ := impl_areLive.mono_l k
  unfold impl_areLive.f
  repeat' first
    | (with_reducible first | exact ih0 .. | exact ih1 .. | exact LeO.refl _ | exact LeO.none _ | refine LeO.ite ?_ ?_ | refine LeO.bind ?_ (fun _ => ?_))
    | exact LeO.none _ | refine LeO.ite ?_ ?_ | refine LeO.bind ?_ (fun _ => ?_)
set_option maxHeartbeats 2000000 in
set_option maxRecDepth 100000 in
theorem impl_areLive.calls (k : Nat) (A0 : Option Addr) (c0 : Nat) (l0 : List (S37)) (a1 : Int) (r : Bool) (w : World) (hr0 : Kd.C k37 w A0 l0.length l0) (hc0 : l0.length ≤ c0) (h : impl_areLive.f k l0 a1 = some r) :
    Calls Try.prog 38 #[.slice A0 l0.length c0, .int .i64 a1] w fun e w' => e = .returned (.bool r) ∧ Below w.heap.size w w' := by
  have hu37 := Try.underlying37
  have HR0 := Aside0.mk hr0
  have HC0 := Aside0.mk hc0
  clear hr0 hc0
  have HB := Aside0.mk (Below.refl w.heap.size w)
  unfold impl_areLive.f at h
  have H := h
  clear h
  have HC3 := Aside0.mk H
  clear H
  go_enter Try.func38, Try.ntmps38
  go_upto_region 1 with (fail)
  go_cut [15] (fun v15 wc => ∃ (kq : Nat) (x15_2 : Bool), v15 = .bool x15_2 ∧ Aside0 (impl_areLive.j0 kq l0 a1 x15_2 = some r) ∧ Aside0 (kq ≤ k) ∧ Aside0 (Below w.heap.size w wc))
  case first =>
    have H := HC3.out
    clear HC3
    replace H := bn H
    obtain ⟨t410, A4, H⟩ := H
    try dsimp only at H
    replace H := ib H
    rcases H with ⟨rfl, H⟩ | ⟨rfl, H⟩
    · (try simp only [Bool.not_true, Bool.not_false])
      have H' := Aside0.mk H
      clear H
      go_wp2_with (first | ((with_reducible refine gf 23 ?_); refine gc Try.func23 (some 9) (impl_within.calls _ _ _ _ _ A4.out) ?_; rintro e w' ⟨rfl, ⟨nd, rfl⟩⟩; refine ⟨_, rfl, ?_⟩))
      go_meet
      case rel => exact ⟨_, (decide ((l0.length : Int) > 300)), ev, H', ⟨om⟩, ⟨bw⟩⟩
    · (try simp only [Bool.not_true, Bool.not_false])
      have H' := Aside0.mk H
      clear H
      go_wp2_with (first | ((with_reducible refine gf 23 ?_); refine gc Try.func23 (some 9) (impl_within.calls _ _ _ _ _ A4.out) ?_; rintro e w' ⟨rfl, ⟨nd, rfl⟩⟩; refine ⟨_, rfl, ?_⟩))
      go_meet
      case rel => exact ⟨_, (true), ev, H', ⟨om⟩, ⟨bw⟩⟩
  case rest =>
    clear HC3
    obtain ⟨kq, x15_2, rfl, HA, HJ2, HB⟩ := hcut
    cases kq with
    | zero => exact absurd HA.out (by simp [impl_areLive.j0])
    | succ kj2 =>
      have H := HA.out
      clear HA
      simp only [impl_areLive.j0] at H
      replace H := ib H
      rcases H with ⟨rfl, H⟩ | ⟨rfl, H⟩
      · obtain rfl := Option.some.inj H
        go_wp2
        go_ret
        exact ⟨rt, bw⟩
      · have H' := Aside0.mk H
        clear H
        go_wp2
        go_loopg [5, 18] kj2 (fun kq v5 v18 w' => ∃ (x5_2 : Int) (x18_2 : Int), v5 = .int .i64 x5_2 ∧ v18 = .int .i64 x18_2 ∧ Aside0 (impl_areLive.l0 kq a1 x5_2 l0 (l0.length : Int) x18_2 = some r) ∧ Aside0 (kq ≤ kj2) ∧ Aside0 (Below w.heap.size w w'))
        case atStart => exact ⟨(0), (0), ev, ev, H', ⟨Nat.le_refl _⟩, ⟨bw⟩⟩
        case round =>
          clear H'
          try clear c6
          obtain ⟨x5_2, x18_2, rfl, rfl, HA, HK2, HB⟩ := hrel
          cases gk with
          | zero => exact absurd HA.out (by simp [impl_areLive.l0])
          | succ k2 =>
            have H := HA.out
            clear HA
            simp only [impl_areLive.l0] at H
            replace H := ilt H
            rcases H with ⟨c7b0, H⟩ | ⟨c7b0, H⟩
            · by_cases c8 : 0 ≤ x18_2
              · rw [if_pos c8] at H
                have c8b0 : decide (0 ≤ x18_2) = true := decide_eq_true c8
                clear c8
                by_cases c9 : x18_2 < (l0.length : Int)
                · rw [if_pos c9] at H
                  have c9b0 : decide (x18_2 < (l0.length : Int)) = true := decide_eq_true c9
                  clear c9
                  replace H := bn H
                  obtain ⟨t413, A10, H⟩ := H
                  try dsimp only at H
                  replace H := ib H
                  rcases H with ⟨rfl, H⟩ | ⟨rfl, H⟩
                  · replace H := bn H
                    obtain ⟨t414, A12, H⟩ := H
                    try dsimp only at H
                    have HU13 := Aside0.mk H
                    clear H
                    have p411 : 0 ≤ (x18_2 : Int) := of_decide_eq_true as_
                    have q411 : x18_2 < (l0.length : Int) := of_decide_eq_true as_
                    obtain ⟨ad411, e411, hx411_0, hx411_1⟩ := at_T37 HR0.out x18_2 p411 q411
                    cases e411
                    replace hx411_0 := cl HB hx411_0
                    replace hx411_1 := cl HB hx411_1
                    replace p411 := eq_true p411
                    replace q411 := eq_true q411
                    go_upto_if 37 with (first | ((with_reducible refine gate_dst (N := 7) rfl ?_); (try (refine gate_guard (by rfl) ?_; dsimp only)); refine box_event ?hg (N := 7) ?hd (cs := #[.int .i64 0, .int .i64 0]) (t := 37) ?hr ?_; (case hd => rfl); (case hg => rfl); (case hr => first | (go_simp; done) | (go_simp; rfl)); intro gb412 hg w14 hbox hb; have BK412 := Aside0.mk hbox; have GW412 := bz hg; have GE412 := bz hg; replace HB := hs hb; clear hb hbox hg; obtain ⟨z15_0, z15_1⟩ := ca2 BK412; obtain ⟨f15_0, f15_1⟩ := fa2 BK412) | ((with_reducible refine gf 23 ?_); refine gc Try.func23 (some 25) (impl_within.calls _ _ _ _ _ A10.out) ?_; rintro e w' ⟨rfl, ⟨nd, rfl⟩⟩; refine ⟨_, rfl, ?_⟩) | (go_at_call 23; (with_reducible refine (impl_within.calls _ _ _ _ _ A12.out).mono ?_); rintro e w' ⟨rfl, ⟨nd, rfl⟩⟩))
                    (try refine ap ?_)
                    have H := HU13.out
                    clear HU13
                    replace H := ib H
                    rcases H with ⟨rfl, H⟩ | ⟨rfl, H⟩
                    · (try simp only [Bool.not_true, Bool.not_false])
                      have H' := Aside0.mk H
                      clear H
                      obtain ⟨z17_0, z17_1⟩ := ca2 BK412
                      obtain ⟨f17_0, f17_1⟩ := fa2 BK412
                      go_wp2
                      go_roundg k2
                      case measure => have := HJ2.out; have := HK2.out; omega
                      case rel => exact ⟨(wrap64 (((rd_T37 l0 x18_2).f0) + ((rd_T37 l0 x18_2).f1))), (wrap64 (x18_2 + 1)), ev, ev, H', ⟨by have := HJ2.out; have := HK2.out; omega⟩, ⟨bw⟩⟩
                    · (try simp only [Bool.not_true, Bool.not_false])
                      obtain rfl := Option.some.inj H
                      go_wp2
                      go_ret
                      exact ⟨rt, bw⟩
                  · obtain rfl := Option.some.inj H
                    have p411 : 0 ≤ (x18_2 : Int) := of_decide_eq_true as_
                    have q411 : x18_2 < (l0.length : Int) := of_decide_eq_true as_
                    obtain ⟨ad411, e411, hx411_0, hx411_1⟩ := at_T37 HR0.out x18_2 p411 q411
                    cases e411
                    replace hx411_0 := cl HB hx411_0
                    replace hx411_1 := cl HB hx411_1
                    replace p411 := eq_true p411
                    replace q411 := eq_true q411
                    go_wp2_with (first | ((with_reducible refine gate_dst (N := 7) rfl ?_); (try (refine gate_guard (by rfl) ?_; dsimp only)); refine box_event ?hg (N := 7) ?hd (cs := #[.int .i64 0, .int .i64 0]) (t := 37) ?hr ?_; (case hd => rfl); (case hg => rfl); (case hr => first | (go_simp; done) | (go_simp; rfl)); intro gb412 hg w18 hbox hb; have BK412 := Aside0.mk hbox; have GW412 := bz hg; have GE412 := bz hg; replace HB := hs hb; clear hb hbox hg; obtain ⟨z19_0, z19_1⟩ := ca2 BK412; obtain ⟨f19_0, f19_1⟩ := fa2 BK412) | ((with_reducible refine gf 23 ?_); refine gc Try.func23 (some 25) (impl_within.calls _ _ _ _ _ A10.out) ?_; rintro e w' ⟨rfl, ⟨nd, rfl⟩⟩; refine ⟨_, rfl, ?_⟩))
                    go_ret
                    exact ⟨rt, bw⟩
                · rw [if_neg c9] at H
                  exact absurd H (by simp)
              · rw [if_neg c8] at H
                exact absurd H (by simp)
            · obtain rfl := Option.some.inj H
              go_wp2
              go_ret
              exact ⟨rt, bw⟩

/-! ### laws_sameLive: function 14 -/
def laws_sameLive.l0 : Nat → List (S37) → List (S37) → Int → Option (Bool)
  | 0, _, _, _ => none
  | k + 1, x0, x1, x5 => if x5 < (x0.length : Int) then (if 0 ≤ x5 then (if x5 < (x1.length : Int) then (if (!(((rd_T37 x0 x5).f0) == ((rd_T37 x1 x5).f0)) || (!(((rd_T37 x0 x5).f1) == ((rd_T37 x1 x5).f1)))) = true then (some false) else (laws_sameLive.l0 k x0 x1 (wrap64 (x5 + 1)))) else (none)) else (none)) else (some true)
def laws_sameLive.f (k : Nat) (l0 : List (S37)) (l1 : List (S37)) : Option (Bool) := if (l0.length : Int) = (l1.length : Int) then (laws_sameLive.l0 k l0 l1 0) else (some false)
theorem laws_sameLive.mono_l : ∀ k, (∀ y0 y1 y2, LeO (laws_sameLive.l0 k y0 y1 y2) (laws_sameLive.l0 (k + 1) y0 y1 y2))
  | 0 => fun _ _ _ r h => by simp [laws_sameLive.l0] at h
  | k + 1 => by
    have ih0 := laws_sameLive.mono_l k
    · intro y0 y1 y2
      unfold laws_sameLive.l0
      repeat' first
        | (with_reducible first | exact ih0 .. | exact LeO.refl _ | exact LeO.none _ | refine LeO.ite ?_ ?_ | refine LeO.bind ?_ (fun _ => ?_))
        | exact LeO.none _ | refine LeO.ite ?_ ?_ | refine LeO.bind ?_ (fun _ => ?_)
theorem laws_sameLive.mono : ∀ a0 a1 k, LeO (laws_sameLive.f k a0 a1) (laws_sameLive.f (k + 1) a0 a1) := by
  intro a0 a1 k
  have ih0 := laws_sameLive.mono_l k
  unfold laws_sameLive.f
  repeat' first
    | (with_reducible first | exact ih0 .. | exact LeO.refl _ | exact LeO.none _ | refine LeO.ite ?_ ?_ | refine LeO.bind ?_ (fun _ => ?_))
    | exact LeO.none _ | refine LeO.ite ?_ ?_ | refine LeO.bind ?_ (fun _ => ?_)
set_option maxHeartbeats 2000000 in
set_option maxRecDepth 100000 in
theorem laws_sameLive.calls (k : Nat) (A0 : Option Addr) (c0 : Nat) (l0 : List (S37)) (A1 : Option Addr) (c1 : Nat) (l1 : List (S37)) (r : Bool) (w : World) (hr0 : Kd.C k37 w A0 l0.length l0) (hc0 : l0.length ≤ c0) (hr1 : Kd.C k37 w A1 l1.length l1) (hc1 : l1.length ≤ c1) (h : laws_sameLive.f k l0 l1 = some r) :
    Calls Try.prog 14 #[.slice A0 l0.length c0, .slice A1 l1.length c1] w fun e w' => e = .returned (.bool r) ∧ Drawn0 w w' := by
  have hu37 := Try.underlying37
  have HR0 := Aside0.mk hr0
  have HC0 := Aside0.mk hc0
  clear hr0 hc0
  have HR1 := Aside0.mk hr1
  have HC1 := Aside0.mk hc1
  clear hr1 hc1
  unfold laws_sameLive.f at h
  have H := h
  clear h
  by_cases c3 : (l0.length : Int) = (l1.length : Int)
  · rw [if_pos c3] at H
    have c3b0 : ((l0.length : Int) == (l1.length : Int)) = true := beq_iff_eq.mpr c3
    have c3b1 : ((l0.length : Int) != (l1.length : Int)) = false := bne_eq_false_iff_eq.mpr c3
    have c3b2 : (l0.length == l1.length) = true := by first | simpa using c3 | (simp at c3 ⊢; omega)
    clear c3
    have H' := Aside0.mk H
    clear H
    go_enter Try.func14, Try.ntmps14
    go_wp2
    repeat (go_quiet (fail); try go_wp2)
    go_loopg [5] k (fun kq v5 w' => ∃ (x5_1 : Int), v5 = .int .i64 x5_1 ∧ Aside0 (laws_sameLive.l0 kq l0 l1 x5_1 = some r) ∧ Aside0 (kq ≤ k) ∧ Drawn0 w w')
    case atStart => exact ⟨(0), ev, H', ⟨Nat.le_refl _⟩, dr⟩
    case round =>
      clear H'
      try clear c1
      try clear c3
      try clear c3b0
      try clear c3b1
      try clear c3b2
      obtain ⟨x5_1, rfl, HA, HK1, ⟨m1, rfl⟩⟩ := hrel
      cases gk with
      | zero => exact absurd HA.out (by simp [laws_sameLive.l0])
      | succ k1 =>
        have H := HA.out
        clear HA
        simp only [laws_sameLive.l0] at H
        replace H := ilt H
        rcases H with ⟨c4b0, H⟩ | ⟨c4b0, H⟩
        · by_cases c5 : 0 ≤ x5_1
          · rw [if_pos c5] at H
            have c5b0 : decide (0 ≤ x5_1) = true := decide_eq_true c5
            clear c5
            by_cases c6 : x5_1 < (l1.length : Int)
            · rw [if_pos c6] at H
              have c6b0 : decide (x5_1 < (l1.length : Int)) = true := decide_eq_true c6
              clear c6
              by_cases c7 : (!(((rd_T37 l0 x5_1).f0) == ((rd_T37 l1 x5_1).f0)) || (!(((rd_T37 l0 x5_1).f1) == ((rd_T37 l1 x5_1).f1)))) = true
              · rw [if_pos c7] at H
                have c7b0 : (!(((rd_T37 l0 x5_1).f0) == ((rd_T37 l1 x5_1).f0)) || (!(((rd_T37 l0 x5_1).f1) == ((rd_T37 l1 x5_1).f1)))) = true := c7
                clear c7
                obtain rfl := Option.some.inj H
                have p430 : 0 ≤ (x5_1 : Int) := of_decide_eq_true as_
                have q430 : x5_1 < (l0.length : Int) := of_decide_eq_true as_
                obtain ⟨ad430, e430, hx430_0, hx430_1⟩ := at_T37 HR0.out x5_1 p430 q430
                cases e430
                replace p430 := eq_true p430
                replace q430 := eq_true q430
                have p431 : 0 ≤ (x5_1 : Int) := of_decide_eq_true as_
                have q431 : x5_1 < (l1.length : Int) := of_decide_eq_true as_
                obtain ⟨ad431, e431, hx431_0, hx431_1⟩ := at_T37 HR1.out x5_1 p431 q431
                cases e431
                replace p431 := eq_true p431
                replace q431 := eq_true q431
                go_wp2
                repeat (go_quiet (fail); try go_wp2)
                go_ret
                exact ⟨ev, dr⟩
              · rw [if_neg c7] at H
                have c7b0 : (!(((rd_T37 l0 x5_1).f0) == ((rd_T37 l1 x5_1).f0)) || (!(((rd_T37 l0 x5_1).f1) == ((rd_T37 l1 x5_1).f1)))) = false := by simpa using c7
                clear c7
                have H' := Aside0.mk H
                clear H
                have p430 : 0 ≤ (x5_1 : Int) := of_decide_eq_true as_
                have q430 : x5_1 < (l0.length : Int) := of_decide_eq_true as_
                obtain ⟨ad430, e430, hx430_0, hx430_1⟩ := at_T37 HR0.out x5_1 p430 q430
                cases e430
                replace p430 := eq_true p430
                replace q430 := eq_true q430
                have p431 : 0 ≤ (x5_1 : Int) := of_decide_eq_true as_
                have q431 : x5_1 < (l1.length : Int) := of_decide_eq_true as_
                obtain ⟨ad431, e431, hx431_0, hx431_1⟩ := at_T37 HR1.out x5_1 p431 q431
                cases e431
                replace p431 := eq_true p431
                replace q431 := eq_true q431
                go_wp2
                repeat (go_quiet (fail); try go_wp2)
                go_roundg k1
                case measure => have := HK1.out; omega
                case rel => exact ⟨(wrap64 (x5_1 + 1)), ev, H', ⟨oa HK1⟩, dr⟩
            · rw [if_neg c6] at H
              exact absurd H (by simp)
          · rw [if_neg c5] at H
            exact absurd H (by simp)
        · obtain rfl := Option.some.inj H
          go_wp2
          repeat (go_quiet (fail); try go_wp2)
          go_ret
          exact ⟨ev, dr⟩
  · rw [if_neg c3] at H
    have c3b0 : ((l0.length : Int) == (l1.length : Int)) = false := beq_eq_false_iff_ne.mpr c3
    have c3b1 : ((l0.length : Int) != (l1.length : Int)) = true := bne_iff_ne.mpr c3
    have c3b2 : (l0.length == l1.length) = false := by first | simpa using c3 | (simp at c3 ⊢; omega)
    obtain rfl := Option.some.inj H
    go_enter Try.func14, Try.ntmps14
    go_wp2
    repeat (go_quiet (fail); try go_wp2)
    go_ret
    exact ⟨ev, dr⟩

end Go.Proofs.Ytobboonnfocalaa.PB1
