/- What functions of the program compute, each as a Lean function, and that the run comes to just that. Conditions: none. (Laid by this session's own program.) -/
import Derived.Test.YtmnjppfebaeoiaaPB1x0
import Derived.Test.YtmnjppfebaeoiaaPB1x3
namespace Go.Proofs.Ytmnjppfebaeoiaa.PB1
open Go.RowKit Go.Proofs.YtmnjppfebaeoiaaW.PrintWords Go.Proofs.YtmnjppfebaeoiaaW.PrintLast Go.Proofs.YtmnjppfebaeoiaaW.PrintMore
attribute [local go_sem] max2_int min2_int max_two min_two max_three min_three max_four min_four   -- for this text's walks alone
set_option linter.unusedVariables false
set_option linter.unusedSimpArgs false

/-! ### impl_isFact: function 149 -/
mutual
def impl_isFact.j0 : Nat → Bool → Int → Int → Int → Int → Int → Option (Bool)
  | 0, _, _, _, _, _, _ => none
  | k + 1, x12, x1264000, x1264001, x1264002, x1264003, x1264004 => if x12 = true then (some false) else (if x1264000 = 1 then (impl_isFact.j1 k x1264000 (x1264000 == 1) x1264000 x1264001 x1264002 x1264003 x1264004) else (impl_isFact.j1 k x1264000 (x1264000 == 2) x1264000 x1264001 x1264002 x1264003 x1264004))
def impl_isFact.j1 : Nat → Int → Bool → Int → Int → Int → Int → Int → Option (Bool)
  | 0, _, _, _, _, _, _, _ => none
  | k + 1, x14, x15, x1264000, x1264001, x1264002, x1264003, x1264004 => if x15 = true then ((impl_within.f x1264003 0 255).bind fun t1266 => (if t1266 = true then (some (decide (x1264004 ≥ 1))) else (some false))) else (if x14 = 3 then (if x1264003 = (-1) then ((impl_within.f x1264004 1 256).bind fun t1267 => (some t1267)) else (some false)) else (if x14 = 4 then ((impl_within.f x1264003 0 4095).bind fun t1268 => (if t1268 = true then (some (x1264004 == 0)) else (some false))) else (some false)))
end
def impl_isFact.f (k : Nat) (a0_0 : Int) (a0_1 : Int) (a0_2 : Int) (a0_3 : Int) (a0_4 : Int) : Option (Bool) := (impl_within.f a0_1 0 3).bind fun t1264 => (if t1264 = true then ((impl_within.f a0_2 0 7).bind fun t1265 => (impl_isFact.j0 k (!t1265) a0_0 a0_1 a0_2 a0_3 a0_4)) else (impl_isFact.j0 k true a0_0 a0_1 a0_2 a0_3 a0_4))
theorem impl_isFact.mono_l : ∀ k, (∀ y0 y1 y2 y3 y4 y5, LeO (impl_isFact.j0 k y0 y1 y2 y3 y4 y5) (impl_isFact.j0 (k + 1) y0 y1 y2 y3 y4 y5)) ∧ (∀ y0 y1 y2 y3 y4 y5 y6, LeO (impl_isFact.j1 k y0 y1 y2 y3 y4 y5 y6) (impl_isFact.j1 (k + 1) y0 y1 y2 y3 y4 y5 y6))
  | 0 => ⟨fun _ _ _ _ _ _ r h => by simp [impl_isFact.j0] at h, fun _ _ _ _ _ _ _ r h => by simp [impl_isFact.j1] at h⟩
  | k + 1 => by
    obtain ⟨ih0, ih1⟩ := impl_isFact.mono_l k
    refine ⟨?_, ?_⟩
    · intro y0 y1 y2 y3 y4 y5
      unfold impl_isFact.j0
      repeat' first
      | (with_reducible exact ih0 _ _ _ _ _ _)
      | (with_reducible exact ih1 _ _ _ _ _ _ _)
      | (with_reducible exact LeO.refl _)
      | (with_reducible exact LeO.none _)
      | (with_reducible refine LeO.ite ?_ ?_)
      | (with_reducible refine LeO.bind ?_ (fun _ => ?_))
      | exact ih0 _ _ _ _ _ _
      | exact ih1 _ _ _ _ _ _ _
      | exact LeO.none _
      | refine LeO.ite ?_ ?_
      | refine LeO.bind ?_ (fun _ => ?_)
    · intro y0 y1 y2 y3 y4 y5 y6
      unfold impl_isFact.j1
      repeat' first
      | (with_reducible exact ih0 _ _ _ _ _ _)
      | (with_reducible exact ih1 _ _ _ _ _ _ _)
      | (with_reducible exact LeO.refl _)
      | (with_reducible exact LeO.none _)
      | (with_reducible refine LeO.ite ?_ ?_)
      | (with_reducible refine LeO.bind ?_ (fun _ => ?_))
      | exact ih0 _ _ _ _ _ _
      | exact ih1 _ _ _ _ _ _ _
      | exact LeO.none _
      | refine LeO.ite ?_ ?_
      | refine LeO.bind ?_ (fun _ => ?_)
theorem impl_isFact.mono : ∀ a0 a1 a2 a3 a4 k, LeO (impl_isFact.f k a0 a1 a2 a3 a4) (impl_isFact.f (k + 1) a0 a1 a2 a3 a4) := by
  intro a0 a1 a2 a3 a4 k
  obtain ⟨ih0, ih1⟩ := impl_isFact.mono_l k
  unfold impl_isFact.f
  repeat' first
      | (with_reducible exact ih0 _ _ _ _ _ _)
      | (with_reducible exact ih1 _ _ _ _ _ _ _)
      | (with_reducible exact LeO.refl _)
      | (with_reducible exact LeO.none _)
      | (with_reducible refine LeO.ite ?_ ?_)
      | (with_reducible refine LeO.bind ?_ (fun _ => ?_))
      | exact ih0 _ _ _ _ _ _
      | exact ih1 _ _ _ _ _ _ _
      | exact LeO.none _
      | refine LeO.ite ?_ ?_
      | refine LeO.bind ?_ (fun _ => ?_)
set_option maxHeartbeats 8000000 in
set_option maxRecDepth 100000 in
theorem impl_isFact.calls (k : Nat) (a0_0 : Int) (a0_1 : Int) (a0_2 : Int) (a0_3 : Int) (a0_4 : Int) (r : Bool) (w : World) (h : impl_isFact.f k a0_0 a0_1 a0_2 a0_3 a0_4 = some r) :
    Calls Try.prog 149 #[.agg #[.int .i64 a0_0, .int .i64 a0_1, .int .i64 a0_2, .int .i64 a0_3, .int .i64 a0_4]] w fun e w' => e = .returned (.bool r) ∧ Below w.heap.size w w' := by
  have hu95 := Try.underlying95
  have HB := Aside0.mk (Below.refl w.heap.size w)
  unfold impl_isFact.f at h
  have H := h
  clear h
  have HC2 := Aside0.mk H
  clear H
  go_enter Try.func149, Try.ntmps149
  go_upto_region 1 with (first | ((with_reducible refine gate_dst (N := 1) rfl ?_); refine box_event ?hg (N := 1) ?hd (cs := #[.int .i64 a0_0, .int .i64 a0_1, .int .i64 a0_2, .int .i64 a0_3, .int .i64 a0_4]) (t := 95) ?hr ?_; (case hd => rfl); (case hg => rfl); (case hr => first | (go_simp; done) | (go_simp; rfl)); intro gb1263 hg w3 hbox hb; have n0_ := Aside0.mk (below_step (by repeat (first | (with_reducible first | exact HB.out | apply below_alloc | apply pw_below_drewN | apply below_drew1) | exact HB.out)) hb); have n1_ := Aside0.mk (hbox); have n2_ := Aside0.mk ((by rw [hg]; exact (below_size (by repeat (first | (with_reducible first | exact HB.out | apply below_alloc | apply pw_below_drewN | apply below_drew1) | exact HB.out))) : w.heap.size ≤ gb1263)); have n3_ := Aside0.mk ((by rw [hg]; exact (below_size (by repeat (first | (with_reducible first | exact HB.out | apply below_alloc | apply pw_below_drewN | apply below_drew1) | exact HB.out))) : w.heap.size ≤ gb1263)); clear HB; have HB := n0_; have BK1263 := n1_; have GW1263 := n2_; have GE1263 := n3_; clear n0_ n1_ n2_ n3_; clear hb hbox hg))
  (try simp only [Act.put, List.setIfInBounds_toArray, List.set_cons_zero, List.set_cons_succ])
  go_cut [12] (fun v12 wc => ∃ (kq : Nat) (x12_1 : Bool), v12 = .bool x12_1 ∧ Aside0 (impl_isFact.j0 kq x12_1 a0_0 a0_1 a0_2 a0_3 a0_4 = some r) ∧ Aside0 (kq ≤ k) ∧ Aside0 (wc.heap[gb1263]? = some (.cells #[.int .i64 a0_0, .int .i64 a0_1, .int .i64 a0_2, .int .i64 a0_3, .int .i64 a0_4] 95 (0, 0))) ∧ Aside0 (Below w.heap.size w wc))
  case first =>
    have H := HC2.out
    clear HC2
    replace H := Option.bind_eq_some_iff.mp H
    obtain ⟨t1264, A40, H⟩ := H
    try dsimp only at H
    have A4 := Aside0.mk A40
    clear A40
    by_cases c5 : t1264 = true
    · subst c5
      (try simp only [Bool.not_true, Bool.not_false])
      rw [if_pos rfl] at H
      replace H := Option.bind_eq_some_iff.mp H
      obtain ⟨t1265, A60, H⟩ := H
      try dsimp only at H
      have A6 := Aside0.mk A60
      clear A60
      have H' := Aside0.mk H
      clear H
      have hcz7_0 : w3.cell? ⟨gb1263, 0, none⟩ = some (.int .i64 a0_0) := (blk_cell BK1263.out 0).trans rfl
      have hcz7_1 : w3.cell? ⟨gb1263, 1, none⟩ = some (.int .i64 a0_1) := (blk_cell BK1263.out 1).trans rfl
      have hcz7_2 : w3.cell? ⟨gb1263, 2, none⟩ = some (.int .i64 a0_2) := (blk_cell BK1263.out 2).trans rfl
      have hcz7_3 : w3.cell? ⟨gb1263, 3, none⟩ = some (.int .i64 a0_3) := (blk_cell BK1263.out 3).trans rfl
      have hcz7_4 : w3.cell? ⟨gb1263, 4, none⟩ = some (.int .i64 a0_4) := (blk_cell BK1263.out 4).trans rfl
      have hfz7_0 := blk_frozen BK1263.out 0
      have hfz7_1 := blk_frozen BK1263.out 1
      have hfz7_2 := blk_frozen BK1263.out 2
      have hfz7_3 := blk_frozen BK1263.out 3
      have hfz7_4 := blk_frozen BK1263.out 4
      go_wp2_with (first | ((with_reducible refine gate_callee (f := 105) rfl ?_); refine goesL_ (some 5) rfl rfl Try.func105 (by kernel_rfl) rfl #[.int .i64 a0_1, .int .i64 0, .int .i64 3] rfl (by (try simp only [List.map_toArray, List.map_cons, List.map_nil]); first | done | rfl | (simp only [List.length_drop, List.length_take]; rfl)) ?_; (with_reducible refine (impl_within.calls a0_1 0 3 true _ A4.out).mono ?_); rintro e w' ⟨rfl, ⟨nd, rfl⟩⟩; refine ⟨_, rfl, ?_⟩) | (go_at_call 105; (with_reducible refine (impl_within.calls a0_2 0 7 t1265 _ A6.out).mono ?_); rintro e w' ⟨rfl, ⟨nd, rfl⟩⟩))
      go_meet
      case rel => exact ⟨_, (!t1265), (by first | rfl | (simp; done) | (simp [*]; done) | (simp; rw [Int.tdiv_eq_ediv_of_nonneg (by omega)])), H', ⟨by first | omega | exact Nat.le_refl _⟩, ⟨by (with_reducible repeat (first | refine blk_drewN ?_ _ | refine blk_drew ?_ | refine blk_alloc ?_ _)); exact BK1263.out⟩, ⟨by repeat (first | (with_reducible first | exact HB.out | apply below_alloc | apply pw_below_drewN | apply below_drew1 | refine below_set ?_ GE1263.out) | exact HB.out)⟩⟩
    · replace c5 := Bool.eq_false_iff.mpr c5
      subst c5
      (try simp only [Bool.not_true, Bool.not_false])
      rw [if_neg (show ¬ (false = true) by decide)] at H
      have H' := Aside0.mk H
      clear H
      have hcz8_0 : w3.cell? ⟨gb1263, 0, none⟩ = some (.int .i64 a0_0) := (blk_cell BK1263.out 0).trans rfl
      have hcz8_1 : w3.cell? ⟨gb1263, 1, none⟩ = some (.int .i64 a0_1) := (blk_cell BK1263.out 1).trans rfl
      have hcz8_2 : w3.cell? ⟨gb1263, 2, none⟩ = some (.int .i64 a0_2) := (blk_cell BK1263.out 2).trans rfl
      have hcz8_3 : w3.cell? ⟨gb1263, 3, none⟩ = some (.int .i64 a0_3) := (blk_cell BK1263.out 3).trans rfl
      have hcz8_4 : w3.cell? ⟨gb1263, 4, none⟩ = some (.int .i64 a0_4) := (blk_cell BK1263.out 4).trans rfl
      have hfz8_0 := blk_frozen BK1263.out 0
      have hfz8_1 := blk_frozen BK1263.out 1
      have hfz8_2 := blk_frozen BK1263.out 2
      have hfz8_3 := blk_frozen BK1263.out 3
      have hfz8_4 := blk_frozen BK1263.out 4
      go_wp2_with (first | ((with_reducible refine gate_callee (f := 105) rfl ?_); refine goesL_ (some 5) rfl rfl Try.func105 (by kernel_rfl) rfl #[.int .i64 a0_1, .int .i64 0, .int .i64 3] rfl (by (try simp only [List.map_toArray, List.map_cons, List.map_nil]); first | done | rfl | (simp only [List.length_drop, List.length_take]; rfl)) ?_; (with_reducible refine (impl_within.calls a0_1 0 3 false _ A4.out).mono ?_); rintro e w' ⟨rfl, ⟨nd, rfl⟩⟩; refine ⟨_, rfl, ?_⟩))
      go_meet
      case rel => exact ⟨_, (true), (by first | rfl | (simp; done) | (simp [*]; done) | (simp; rw [Int.tdiv_eq_ediv_of_nonneg (by omega)])), H', ⟨by first | omega | exact Nat.le_refl _⟩, ⟨by (with_reducible repeat (first | refine blk_drewN ?_ _ | refine blk_drew ?_ | refine blk_alloc ?_ _)); exact BK1263.out⟩, ⟨by repeat (first | (with_reducible first | exact HB.out | apply below_alloc | apply pw_below_drewN | apply below_drew1 | refine below_set ?_ GE1263.out) | exact HB.out)⟩⟩
  case rest =>
    clear HC2
    try clear c1
    try clear p2
    try clear c5
    try clear hcz7_0
    try clear hcz7_1
    try clear hcz7_2
    try clear hcz7_3
    try clear hcz7_4
    try clear hcz8_0
    try clear hcz8_1
    try clear hcz8_2
    try clear hcz8_3
    try clear hcz8_4
    try clear hfz7_0
    try clear hfz7_1
    try clear hfz7_2
    try clear hfz7_3
    try clear hfz7_4
    try clear hfz8_0
    try clear hfz8_1
    try clear hfz8_2
    try clear hfz8_3
    try clear hfz8_4
    obtain ⟨kq, x12_1, rfl, HA, HJ1, BK1263, HB⟩ := hcut
    cases kq with
    | zero => exact absurd HA.out (by simp [impl_isFact.j0])
    | succ kj1 =>
      have H := HA.out
      clear HA
      simp only [impl_isFact.j0] at H
      by_cases c9 : x12_1 = true
      · subst c9
        rw [if_pos rfl] at H
        obtain rfl := Option.some.inj H
        go_wp2
        go_ret
        exact ⟨by first | rfl | (simp only [i64_w, i32_w] <;> rfl) | (simp [errW_none, errW_some] <;> rfl) | (simp [*, errW_none, errW_some] <;> rfl), by repeat (first | (with_reducible first | exact HB.out | apply below_alloc | apply pw_below_drewN | apply below_drew1 | refine below_set ?_ GE1263.out) | exact HB.out)⟩
      · replace c9 := Bool.eq_false_iff.mpr c9
        subst c9
        rw [if_neg (show ¬ (false = true) by decide)] at H
        have HC10 := Aside0.mk H
        clear H
        have hcz11_0 : wc.cell? ⟨gb1263, 0, none⟩ = some (.int .i64 a0_0) := (blk_cell BK1263.out 0).trans rfl
        have hcz11_1 : wc.cell? ⟨gb1263, 1, none⟩ = some (.int .i64 a0_1) := (blk_cell BK1263.out 1).trans rfl
        have hcz11_2 : wc.cell? ⟨gb1263, 2, none⟩ = some (.int .i64 a0_2) := (blk_cell BK1263.out 2).trans rfl
        have hcz11_3 : wc.cell? ⟨gb1263, 3, none⟩ = some (.int .i64 a0_3) := (blk_cell BK1263.out 3).trans rfl
        have hcz11_4 : wc.cell? ⟨gb1263, 4, none⟩ = some (.int .i64 a0_4) := (blk_cell BK1263.out 4).trans rfl
        have hfz11_0 := blk_frozen BK1263.out 0
        have hfz11_1 := blk_frozen BK1263.out 1
        have hfz11_2 := blk_frozen BK1263.out 2
        have hfz11_3 := blk_frozen BK1263.out 3
        have hfz11_4 := blk_frozen BK1263.out 4
        go_upto_if 15 with (fail)
        go_cut [15] (fun v15 wc => ∃ (kq : Nat) (x15_9 : Bool), v15 = .bool x15_9 ∧ Aside0 (impl_isFact.j1 kq a0_0 x15_9 a0_0 a0_1 a0_2 a0_3 a0_4 = some r) ∧ Aside0 (kq ≤ kj1) ∧ Aside0 (wc.heap[gb1263]? = some (.cells #[.int .i64 a0_0, .int .i64 a0_1, .int .i64 a0_2, .int .i64 a0_3, .int .i64 a0_4] 95 (0, 0))) ∧ Aside0 (Below w.heap.size w wc))
        case first =>
          have H := HC10.out
          clear HC10
          by_cases c12 : a0_0 = 1
          · rw [if_pos c12] at H
            have c12b0 : (a0_0 == 1) = true := beq_iff_eq.mpr c12
            have c12b1 : (a0_0 != 1) = false := bne_eq_false_iff_eq.mpr c12
            clear c12
            (first | rw [c12b0] | (simp only [i64_w, i32_w]; rw [c12b0]) | (simp only [c12b2, Bool.not_true, Bool.not_false]) | (simp only [c12b1, Bool.not_true, Bool.not_false]) | skip)
            have H' := Aside0.mk H
            clear H
            go_wp2
            go_meet
            case rel => exact ⟨_, ((a0_0 == 1)), (by first | rfl | (simp; done) | (simp [*]; done) | (simp; rw [Int.tdiv_eq_ediv_of_nonneg (by omega)])), H', ⟨by have := HJ1.out; first | omega | exact Nat.le_refl _⟩, ⟨by (with_reducible repeat (first | refine blk_drewN ?_ _ | refine blk_drew ?_ | refine blk_alloc ?_ _)); exact BK1263.out⟩, ⟨by repeat (first | (with_reducible first | exact HB.out | apply below_alloc | apply pw_below_drewN | apply below_drew1 | refine below_set ?_ GE1263.out) | exact HB.out)⟩⟩
          · rw [if_neg c12] at H
            have c12b0 : (a0_0 == 1) = false := beq_eq_false_iff_ne.mpr c12
            have c12b1 : (a0_0 != 1) = true := bne_iff_ne.mpr c12
            (first | rw [c12b0] | (simp only [i64_w, i32_w]; rw [c12b0]) | (simp only [c12b2, Bool.not_true, Bool.not_false]) | (simp only [c12b1, Bool.not_true, Bool.not_false]) | skip)
            have H' := Aside0.mk H
            clear H
            go_wp2
            go_meet
            case rel => exact ⟨_, ((a0_0 == 2)), (by first | rfl | (simp; done) | (simp [*]; done) | (simp; rw [Int.tdiv_eq_ediv_of_nonneg (by omega)])), H', ⟨by have := HJ1.out; first | omega | exact Nat.le_refl _⟩, ⟨by (with_reducible repeat (first | refine blk_drewN ?_ _ | refine blk_drew ?_ | refine blk_alloc ?_ _)); exact BK1263.out⟩, ⟨by repeat (first | (with_reducible first | exact HB.out | apply below_alloc | apply pw_below_drewN | apply below_drew1 | refine below_set ?_ GE1263.out) | exact HB.out)⟩⟩
        case rest =>
          clear HC10
          try clear c1
          try clear p2
          try clear c5
          try clear c9
          try clear c10
          try clear c12
          try clear c12b0
          try clear c12b1
          try clear c12b2
          try clear hcz11_0
          try clear hcz11_1
          try clear hcz11_2
          try clear hcz11_3
          try clear hcz11_4
          try clear hcz7_0
          try clear hcz7_1
          try clear hcz7_2
          try clear hcz7_3
          try clear hcz7_4
          try clear hcz8_0
          try clear hcz8_1
          try clear hcz8_2
          try clear hcz8_3
          try clear hcz8_4
          try clear hfz11_0
          try clear hfz11_1
          try clear hfz11_2
          try clear hfz11_3
          try clear hfz11_4
          try clear hfz7_0
          try clear hfz7_1
          try clear hfz7_2
          try clear hfz7_3
          try clear hfz7_4
          try clear hfz8_0
          try clear hfz8_1
          try clear hfz8_2
          try clear hfz8_3
          try clear hfz8_4
          try clear p2
          obtain ⟨kq, x15_9, rfl, HA, HJ9, BK1263, HB⟩ := hcut
          cases kq with
          | zero => exact absurd HA.out (by simp [impl_isFact.j1])
          | succ kj9 =>
            have H := HA.out
            clear HA
            simp only [impl_isFact.j1] at H
            by_cases c13 : x15_9 = true
            · subst c13
              rw [if_pos rfl] at H
              replace H := Option.bind_eq_some_iff.mp H
              obtain ⟨t1266, A140, H⟩ := H
              try dsimp only at H
              have A14 := Aside0.mk A140
              clear A140
              by_cases c15 : t1266 = true
              · subst c15
                rw [if_pos rfl] at H
                obtain rfl := Option.some.inj H
                have hcz16_0 : wc.cell? ⟨gb1263, 0, none⟩ = some (.int .i64 a0_0) := (blk_cell BK1263.out 0).trans rfl
                have hcz16_1 : wc.cell? ⟨gb1263, 1, none⟩ = some (.int .i64 a0_1) := (blk_cell BK1263.out 1).trans rfl
                have hcz16_2 : wc.cell? ⟨gb1263, 2, none⟩ = some (.int .i64 a0_2) := (blk_cell BK1263.out 2).trans rfl
                have hcz16_3 : wc.cell? ⟨gb1263, 3, none⟩ = some (.int .i64 a0_3) := (blk_cell BK1263.out 3).trans rfl
                have hcz16_4 : wc.cell? ⟨gb1263, 4, none⟩ = some (.int .i64 a0_4) := (blk_cell BK1263.out 4).trans rfl
                have hfz16_0 := blk_frozen BK1263.out 0
                have hfz16_1 := blk_frozen BK1263.out 1
                have hfz16_2 := blk_frozen BK1263.out 2
                have hfz16_3 := blk_frozen BK1263.out 3
                have hfz16_4 := blk_frozen BK1263.out 4
                go_wp2_with (first | ((with_reducible refine gate_callee (f := 105) rfl ?_); refine goesL_ (some 20) rfl rfl Try.func105 (by kernel_rfl) rfl #[.int .i64 a0_3, .int .i64 0, .int .i64 255] rfl (by (try simp only [List.map_toArray, List.map_cons, List.map_nil]); first | done | rfl | (simp only [List.length_drop, List.length_take]; rfl)) ?_; (with_reducible refine (impl_within.calls a0_3 0 255 true _ A14.out).mono ?_); rintro e w' ⟨rfl, ⟨nd, rfl⟩⟩; refine ⟨_, rfl, ?_⟩))
                go_ret
                exact ⟨by first | rfl | (simp only [i64_w, i32_w] <;> rfl) | (simp [errW_none, errW_some] <;> rfl) | (simp [*, errW_none, errW_some] <;> rfl), by repeat (first | (with_reducible first | exact HB.out | apply below_alloc | apply pw_below_drewN | apply below_drew1 | refine below_set ?_ GE1263.out) | exact HB.out)⟩
              · replace c15 := Bool.eq_false_iff.mpr c15
                subst c15
                rw [if_neg (show ¬ (false = true) by decide)] at H
                obtain rfl := Option.some.inj H
                have hcz17_0 : wc.cell? ⟨gb1263, 0, none⟩ = some (.int .i64 a0_0) := (blk_cell BK1263.out 0).trans rfl
                have hcz17_1 : wc.cell? ⟨gb1263, 1, none⟩ = some (.int .i64 a0_1) := (blk_cell BK1263.out 1).trans rfl
                have hcz17_2 : wc.cell? ⟨gb1263, 2, none⟩ = some (.int .i64 a0_2) := (blk_cell BK1263.out 2).trans rfl
                have hcz17_3 : wc.cell? ⟨gb1263, 3, none⟩ = some (.int .i64 a0_3) := (blk_cell BK1263.out 3).trans rfl
                have hcz17_4 : wc.cell? ⟨gb1263, 4, none⟩ = some (.int .i64 a0_4) := (blk_cell BK1263.out 4).trans rfl
                have hfz17_0 := blk_frozen BK1263.out 0
                have hfz17_1 := blk_frozen BK1263.out 1
                have hfz17_2 := blk_frozen BK1263.out 2
                have hfz17_3 := blk_frozen BK1263.out 3
                have hfz17_4 := blk_frozen BK1263.out 4
                go_wp2_with (first | ((with_reducible refine gate_callee (f := 105) rfl ?_); refine goesL_ (some 20) rfl rfl Try.func105 (by kernel_rfl) rfl #[.int .i64 a0_3, .int .i64 0, .int .i64 255] rfl (by (try simp only [List.map_toArray, List.map_cons, List.map_nil]); first | done | rfl | (simp only [List.length_drop, List.length_take]; rfl)) ?_; (with_reducible refine (impl_within.calls a0_3 0 255 false _ A14.out).mono ?_); rintro e w' ⟨rfl, ⟨nd, rfl⟩⟩; refine ⟨_, rfl, ?_⟩))
                go_ret
                exact ⟨by first | rfl | (simp only [i64_w, i32_w] <;> rfl) | (simp [errW_none, errW_some] <;> rfl) | (simp [*, errW_none, errW_some] <;> rfl), by repeat (first | (with_reducible first | exact HB.out | apply below_alloc | apply pw_below_drewN | apply below_drew1 | refine below_set ?_ GE1263.out) | exact HB.out)⟩
            · replace c13 := Bool.eq_false_iff.mpr c13
              subst c13
              rw [if_neg (show ¬ (false = true) by decide)] at H
              by_cases c18 : a0_0 = 3
              · rw [if_pos c18] at H
                have c18b0 : (a0_0 == 3) = true := beq_iff_eq.mpr c18
                have c18b1 : (a0_0 != 3) = false := bne_eq_false_iff_eq.mpr c18
                clear c18
                by_cases c19 : a0_3 = (-1)
                · rw [if_pos c19] at H
                  have c19b0 : (a0_3 == (-1)) = true := beq_iff_eq.mpr c19
                  have c19b1 : (a0_3 != (-1)) = false := bne_eq_false_iff_eq.mpr c19
                  clear c19
                  replace H := Option.bind_eq_some_iff.mp H
                  obtain ⟨t1267, A200, H⟩ := H
                  try dsimp only at H
                  have A20 := Aside0.mk A200
                  clear A200
                  obtain rfl := Option.some.inj H
                  have hcz21_0 : wc.cell? ⟨gb1263, 0, none⟩ = some (.int .i64 a0_0) := (blk_cell BK1263.out 0).trans rfl
                  have hcz21_1 : wc.cell? ⟨gb1263, 1, none⟩ = some (.int .i64 a0_1) := (blk_cell BK1263.out 1).trans rfl
                  have hcz21_2 : wc.cell? ⟨gb1263, 2, none⟩ = some (.int .i64 a0_2) := (blk_cell BK1263.out 2).trans rfl
                  have hcz21_3 : wc.cell? ⟨gb1263, 3, none⟩ = some (.int .i64 a0_3) := (blk_cell BK1263.out 3).trans rfl
                  have hcz21_4 : wc.cell? ⟨gb1263, 4, none⟩ = some (.int .i64 a0_4) := (blk_cell BK1263.out 4).trans rfl
                  have hfz21_0 := blk_frozen BK1263.out 0
                  have hfz21_1 := blk_frozen BK1263.out 1
                  have hfz21_2 := blk_frozen BK1263.out 2
                  have hfz21_3 := blk_frozen BK1263.out 3
                  have hfz21_4 := blk_frozen BK1263.out 4
                  go_wp2_with (first | (go_at_call 105; (with_reducible refine (impl_within.calls a0_4 1 256 t1267 _ A20.out).mono ?_); rintro e w' ⟨rfl, ⟨nd, rfl⟩⟩))
                  go_ret
                  exact ⟨by first | rfl | (simp only [i64_w, i32_w] <;> rfl) | (simp [errW_none, errW_some] <;> rfl) | (simp [*, errW_none, errW_some] <;> rfl), by repeat (first | (with_reducible first | exact HB.out | apply below_alloc | apply pw_below_drewN | apply below_drew1 | refine below_set ?_ GE1263.out) | exact HB.out)⟩
                · rw [if_neg c19] at H
                  have c19b0 : (a0_3 == (-1)) = false := beq_eq_false_iff_ne.mpr c19
                  have c19b1 : (a0_3 != (-1)) = true := bne_iff_ne.mpr c19
                  obtain rfl := Option.some.inj H
                  have hcz22_0 : wc.cell? ⟨gb1263, 0, none⟩ = some (.int .i64 a0_0) := (blk_cell BK1263.out 0).trans rfl
                  have hcz22_1 : wc.cell? ⟨gb1263, 1, none⟩ = some (.int .i64 a0_1) := (blk_cell BK1263.out 1).trans rfl
                  have hcz22_2 : wc.cell? ⟨gb1263, 2, none⟩ = some (.int .i64 a0_2) := (blk_cell BK1263.out 2).trans rfl
                  have hcz22_3 : wc.cell? ⟨gb1263, 3, none⟩ = some (.int .i64 a0_3) := (blk_cell BK1263.out 3).trans rfl
                  have hcz22_4 : wc.cell? ⟨gb1263, 4, none⟩ = some (.int .i64 a0_4) := (blk_cell BK1263.out 4).trans rfl
                  have hfz22_0 := blk_frozen BK1263.out 0
                  have hfz22_1 := blk_frozen BK1263.out 1
                  have hfz22_2 := blk_frozen BK1263.out 2
                  have hfz22_3 := blk_frozen BK1263.out 3
                  have hfz22_4 := blk_frozen BK1263.out 4
                  go_wp2
                  go_ret
                  exact ⟨by first | rfl | (simp only [i64_w, i32_w] <;> rfl) | (simp [errW_none, errW_some] <;> rfl) | (simp [*, errW_none, errW_some] <;> rfl), by repeat (first | (with_reducible first | exact HB.out | apply below_alloc | apply pw_below_drewN | apply below_drew1 | refine below_set ?_ GE1263.out) | exact HB.out)⟩
              · rw [if_neg c18] at H
                have c18b0 : (a0_0 == 3) = false := beq_eq_false_iff_ne.mpr c18
                have c18b1 : (a0_0 != 3) = true := bne_iff_ne.mpr c18
                by_cases c23 : a0_0 = 4
                · rw [if_pos c23] at H
                  have c23b0 : (a0_0 == 4) = true := beq_iff_eq.mpr c23
                  have c23b1 : (a0_0 != 4) = false := bne_eq_false_iff_eq.mpr c23
                  clear c23
                  replace H := Option.bind_eq_some_iff.mp H
                  obtain ⟨t1268, A240, H⟩ := H
                  try dsimp only at H
                  have A24 := Aside0.mk A240
                  clear A240
                  by_cases c25 : t1268 = true
                  · subst c25
                    rw [if_pos rfl] at H
                    obtain rfl := Option.some.inj H
                    have hcz26_0 : wc.cell? ⟨gb1263, 0, none⟩ = some (.int .i64 a0_0) := (blk_cell BK1263.out 0).trans rfl
                    have hcz26_1 : wc.cell? ⟨gb1263, 1, none⟩ = some (.int .i64 a0_1) := (blk_cell BK1263.out 1).trans rfl
                    have hcz26_2 : wc.cell? ⟨gb1263, 2, none⟩ = some (.int .i64 a0_2) := (blk_cell BK1263.out 2).trans rfl
                    have hcz26_3 : wc.cell? ⟨gb1263, 3, none⟩ = some (.int .i64 a0_3) := (blk_cell BK1263.out 3).trans rfl
                    have hcz26_4 : wc.cell? ⟨gb1263, 4, none⟩ = some (.int .i64 a0_4) := (blk_cell BK1263.out 4).trans rfl
                    have hfz26_0 := blk_frozen BK1263.out 0
                    have hfz26_1 := blk_frozen BK1263.out 1
                    have hfz26_2 := blk_frozen BK1263.out 2
                    have hfz26_3 := blk_frozen BK1263.out 3
                    have hfz26_4 := blk_frozen BK1263.out 4
                    go_wp2_with (first | ((with_reducible refine gate_callee (f := 105) rfl ?_); refine goesL_ (some 40) rfl rfl Try.func105 (by kernel_rfl) rfl #[.int .i64 a0_3, .int .i64 0, .int .i64 4095] rfl (by (try simp only [List.map_toArray, List.map_cons, List.map_nil]); first | done | rfl | (simp only [List.length_drop, List.length_take]; rfl)) ?_; (with_reducible refine (impl_within.calls a0_3 0 4095 true _ A24.out).mono ?_); rintro e w' ⟨rfl, ⟨nd, rfl⟩⟩; refine ⟨_, rfl, ?_⟩))
                    go_ret
                    exact ⟨by first | rfl | (simp only [i64_w, i32_w] <;> rfl) | (simp [errW_none, errW_some] <;> rfl) | (simp [*, errW_none, errW_some] <;> rfl), by repeat (first | (with_reducible first | exact HB.out | apply below_alloc | apply pw_below_drewN | apply below_drew1 | refine below_set ?_ GE1263.out) | exact HB.out)⟩
                  · replace c25 := Bool.eq_false_iff.mpr c25
                    subst c25
                    rw [if_neg (show ¬ (false = true) by decide)] at H
                    obtain rfl := Option.some.inj H
                    have hcz27_0 : wc.cell? ⟨gb1263, 0, none⟩ = some (.int .i64 a0_0) := (blk_cell BK1263.out 0).trans rfl
                    have hcz27_1 : wc.cell? ⟨gb1263, 1, none⟩ = some (.int .i64 a0_1) := (blk_cell BK1263.out 1).trans rfl
                    have hcz27_2 : wc.cell? ⟨gb1263, 2, none⟩ = some (.int .i64 a0_2) := (blk_cell BK1263.out 2).trans rfl
                    have hcz27_3 : wc.cell? ⟨gb1263, 3, none⟩ = some (.int .i64 a0_3) := (blk_cell BK1263.out 3).trans rfl
                    have hcz27_4 : wc.cell? ⟨gb1263, 4, none⟩ = some (.int .i64 a0_4) := (blk_cell BK1263.out 4).trans rfl
                    have hfz27_0 := blk_frozen BK1263.out 0
                    have hfz27_1 := blk_frozen BK1263.out 1
                    have hfz27_2 := blk_frozen BK1263.out 2
                    have hfz27_3 := blk_frozen BK1263.out 3
                    have hfz27_4 := blk_frozen BK1263.out 4
                    go_wp2_with (first | ((with_reducible refine gate_callee (f := 105) rfl ?_); refine goesL_ (some 40) rfl rfl Try.func105 (by kernel_rfl) rfl #[.int .i64 a0_3, .int .i64 0, .int .i64 4095] rfl (by (try simp only [List.map_toArray, List.map_cons, List.map_nil]); first | done | rfl | (simp only [List.length_drop, List.length_take]; rfl)) ?_; (with_reducible refine (impl_within.calls a0_3 0 4095 false _ A24.out).mono ?_); rintro e w' ⟨rfl, ⟨nd, rfl⟩⟩; refine ⟨_, rfl, ?_⟩))
                    go_ret
                    exact ⟨by first | rfl | (simp only [i64_w, i32_w] <;> rfl) | (simp [errW_none, errW_some] <;> rfl) | (simp [*, errW_none, errW_some] <;> rfl), by repeat (first | (with_reducible first | exact HB.out | apply below_alloc | apply pw_below_drewN | apply below_drew1 | refine below_set ?_ GE1263.out) | exact HB.out)⟩
                · rw [if_neg c23] at H
                  have c23b0 : (a0_0 == 4) = false := beq_eq_false_iff_ne.mpr c23
                  have c23b1 : (a0_0 != 4) = true := bne_iff_ne.mpr c23
                  obtain rfl := Option.some.inj H
                  go_wp2
                  go_ret
                  exact ⟨by first | rfl | (simp only [i64_w, i32_w] <;> rfl) | (simp [errW_none, errW_some] <;> rfl) | (simp [*, errW_none, errW_some] <;> rfl), by repeat (first | (with_reducible first | exact HB.out | apply below_alloc | apply pw_below_drewN | apply below_drew1 | refine below_set ?_ GE1263.out) | exact HB.out)⟩

end Go.Proofs.Ytmnjppfebaeoiaa.PB1
