/- What functions of the program compute, each as a Lean function, and that the run comes to just that. Conditions: none. (Laid by this session's own program.) -/
import Derived.Test.YtmnjppfebaeoiaaPB1x0
import Derived.Test.YtmnjppfebaeoiaaPB1x5
import Derived.Test.YtmnjppfebaeoiaaPB1x9
import Derived.Test.YtmnjppfebaeoiaaPB1x14
namespace Go.Proofs.Ytmnjppfebaeoiaa.PB1
open Go.RowKit Go.Proofs.YtmnjppfebaeoiaaW.PrintWords Go.Proofs.YtmnjppfebaeoiaaW.PrintLast Go.Proofs.YtmnjppfebaeoiaaW.PrintMore
attribute [local go_sem] max2_int min2_int max_two min_two max_three min_three max_four min_four   -- for this text's walks alone
set_option linter.unusedVariables false
set_option linter.unusedSimpArgs false

/-! ### spec_FactOk: function 127 -/
mutual
def spec_FactOk.j0 : Nat → Bool → Int → Int → Int → Int → Int → Option (Bool)
  | 0, _, _, _, _, _, _ => none
  | k + 1, x20, x1237000, x1237001, x1237002, x1237003, x1237004 => if x20 = true then (some false) else (if x1237000 = 1 then (spec_FactOk.j1 k x1237000 (x1237000 == 1) x1237000 x1237001 x1237002 x1237003 x1237004) else (spec_FactOk.j1 k x1237000 (x1237000 == 2) x1237000 x1237001 x1237002 x1237003 x1237004))
def spec_FactOk.j1 : Nat → Int → Bool → Int → Int → Int → Int → Int → Option (Bool)
  | 0, _, _, _, _, _, _, _ => none
  | k + 1, x22, x23, x1237000, x1237001, x1237002, x1237003, x1237004 => if x23 = true then (if x1237003 ≥ 0 then (if x1237003 ≤ 255 then (some (decide (x1237004 ≥ 1))) else (some false)) else (some false)) else (if x22 = 3 then (if x1237003 = (-1) then (if x1237004 ≥ 1 then (some (decide (x1237004 ≤ 256))) else (some false)) else (some false)) else (if x22 = 4 then (if x1237003 ≥ 0 then (if x1237003 ≤ 4095 then (some (x1237004 == 0)) else (some false)) else (some false)) else (some false)))
end
def spec_FactOk.f (k : Nat) (a0_0 : Int) (a0_1 : Int) (a0_2 : Int) (a0_3 : Int) (a0_4 : Int) : Option (Bool) := if a0_1 < 0 then (spec_FactOk.j0 k true a0_0 a0_1 a0_2 a0_3 a0_4) else (if a0_1 ≥ 4 then (spec_FactOk.j0 k true a0_0 a0_1 a0_2 a0_3 a0_4) else (if a0_2 < 0 then (spec_FactOk.j0 k true a0_0 a0_1 a0_2 a0_3 a0_4) else (spec_FactOk.j0 k (decide (a0_2 ≥ 8)) a0_0 a0_1 a0_2 a0_3 a0_4)))
theorem spec_FactOk.mono_l : ∀ k, (∀ y0 y1 y2 y3 y4 y5, LeO (spec_FactOk.j0 k y0 y1 y2 y3 y4 y5) (spec_FactOk.j0 (k + 1) y0 y1 y2 y3 y4 y5)) ∧ (∀ y0 y1 y2 y3 y4 y5 y6, LeO (spec_FactOk.j1 k y0 y1 y2 y3 y4 y5 y6) (spec_FactOk.j1 (k + 1) y0 y1 y2 y3 y4 y5 y6))
  | 0 => ⟨fun _ _ _ _ _ _ r h => by simp [spec_FactOk.j0] at h, fun _ _ _ _ _ _ _ r h => by simp [spec_FactOk.j1] at h⟩
  | k + 1 => by
    obtain ⟨ih0, ih1⟩ := spec_FactOk.mono_l k
    refine ⟨?_, ?_⟩
    · intro y0 y1 y2 y3 y4 y5
      unfold spec_FactOk.j0
      repeat' first
      | (with_reducible exact ih0 _ _ _ _ _ _)
      | (with_reducible exact ih1 _ _ _ _ _ _ _)
      | (with_reducible exact LeO.refl _)
      | (with_reducible exact LeO.none _)
      | (with_reducible refine LeO.ite ?_ ?_)
      | (with_reducible refine LeO.bind ?_ (fun _ => ?_))
      | exact ih0 _ _ _ _ _ _
      | exact ih1 _ _ _ _ _ _ _
      | exact LeO.none _
      | refine LeO.ite ?_ ?_
      | refine LeO.bind ?_ (fun _ => ?_)
    · intro y0 y1 y2 y3 y4 y5 y6
      unfold spec_FactOk.j1
      repeat' first
      | (with_reducible exact ih0 _ _ _ _ _ _)
      | (with_reducible exact ih1 _ _ _ _ _ _ _)
      | (with_reducible exact LeO.refl _)
      | (with_reducible exact LeO.none _)
      | (with_reducible refine LeO.ite ?_ ?_)
      | (with_reducible refine LeO.bind ?_ (fun _ => ?_))
      | exact ih0 _ _ _ _ _ _
      | exact ih1 _ _ _ _ _ _ _
      | exact LeO.none _
      | refine LeO.ite ?_ ?_
      | refine LeO.bind ?_ (fun _ => ?_)
theorem spec_FactOk.mono : ∀ a0 a1 a2 a3 a4 k, LeO (spec_FactOk.f k a0 a1 a2 a3 a4) (spec_FactOk.f (k + 1) a0 a1 a2 a3 a4) := by
  intro a0 a1 a2 a3 a4 k
  obtain ⟨ih0, ih1⟩ := spec_FactOk.mono_l k
  unfold spec_FactOk.f
  repeat' first
      | (with_reducible exact ih0 _ _ _ _ _ _)
      | (with_reducible exact ih1 _ _ _ _ _ _ _)
      | (with_reducible exact LeO.refl _)
      | (with_reducible exact LeO.none _)
      | (with_reducible refine LeO.ite ?_ ?_)
      | (with_reducible refine LeO.bind ?_ (fun _ => ?_))
      | exact ih0 _ _ _ _ _ _
      | exact ih1 _ _ _ _ _ _ _
      | exact LeO.none _
      | refine LeO.ite ?_ ?_
      | refine LeO.bind ?_ (fun _ => ?_)
set_option maxHeartbeats 8000000 in
set_option maxRecDepth 100000 in
theorem spec_FactOk.calls (k : Nat) (a0_0 : Int) (a0_1 : Int) (a0_2 : Int) (a0_3 : Int) (a0_4 : Int) (r : Bool) (w : World) (h : spec_FactOk.f k a0_0 a0_1 a0_2 a0_3 a0_4 = some r) :
    Calls Try.prog 127 #[.agg #[.int .i64 a0_0, .int .i64 a0_1, .int .i64 a0_2, .int .i64 a0_3, .int .i64 a0_4]] w fun e w' => e = .returned (.bool r) ∧ Below w.heap.size w w' := by
  have hu95 := Try.underlying95
  have HB := Aside0.mk (Below.refl w.heap.size w)
  unfold spec_FactOk.f at h
  have H := h
  clear h
  have HC2 := Aside0.mk H
  clear H
  go_enter Try.func127, Try.ntmps127
  go_upto_region 1 with (first | ((with_reducible refine gate_dst (N := 1) rfl ?_); refine box_event ?hg (N := 1) ?hd (cs := #[.int .i64 a0_0, .int .i64 a0_1, .int .i64 a0_2, .int .i64 a0_3, .int .i64 a0_4]) (t := 95) ?hr ?_; (case hd => rfl); (case hg => rfl); (case hr => first | (go_simp; done) | (go_simp; rfl)); intro gb1236 hg w3 hbox hb; have n0_ := Aside0.mk (below_step (by repeat (first | (with_reducible first | exact HB.out | apply below_alloc | apply pw_below_drewN | apply below_drew1) | exact HB.out)) hb); have n1_ := Aside0.mk (hbox); have n2_ := Aside0.mk ((by rw [hg]; exact (below_size (by repeat (first | (with_reducible first | exact HB.out | apply below_alloc | apply pw_below_drewN | apply below_drew1) | exact HB.out))) : w.heap.size ≤ gb1236)); have n3_ := Aside0.mk ((by rw [hg]; exact (below_size (by repeat (first | (with_reducible first | exact HB.out | apply below_alloc | apply pw_below_drewN | apply below_drew1) | exact HB.out))) : w.heap.size ≤ gb1236)); clear HB; have HB := n0_; have BK1236 := n1_; have GW1236 := n2_; have GE1236 := n3_; clear n0_ n1_ n2_ n3_; clear hb hbox hg))
  (try simp only [Act.put, List.setIfInBounds_toArray, List.set_cons_zero, List.set_cons_succ])
  go_cut [20] (fun v20 wc => ∃ (kq : Nat) (x20_1 : Bool), v20 = .bool x20_1 ∧ Aside0 (spec_FactOk.j0 kq x20_1 a0_0 a0_1 a0_2 a0_3 a0_4 = some r) ∧ Aside0 (kq ≤ k) ∧ Aside0 (wc.heap[gb1236]? = some (.cells #[.int .i64 a0_0, .int .i64 a0_1, .int .i64 a0_2, .int .i64 a0_3, .int .i64 a0_4] 95 (0, 0))) ∧ Aside0 (Below w.heap.size w wc))
  case first =>
    have H := HC2.out
    clear HC2
    by_cases c4 : a0_1 < 0
    · rw [if_pos c4] at H
      have c4b0 : decide (a0_1 < 0) = true := decide_eq_true c4
      clear c4
      (first | rw [c4b0] | (simp only [i64_w, i32_w]; rw [c4b0]) | (simp only [c4b2, Bool.not_true, Bool.not_false]) | (simp only [c4b1, Bool.not_true, Bool.not_false]) | skip)
      have H' := Aside0.mk H
      clear H
      have hcz5_0 : w3.cell? ⟨gb1236, 0, none⟩ = some (.int .i64 a0_0) := (blk_cell BK1236.out 0).trans rfl
      have hcz5_1 : w3.cell? ⟨gb1236, 1, none⟩ = some (.int .i64 a0_1) := (blk_cell BK1236.out 1).trans rfl
      have hcz5_2 : w3.cell? ⟨gb1236, 2, none⟩ = some (.int .i64 a0_2) := (blk_cell BK1236.out 2).trans rfl
      have hcz5_3 : w3.cell? ⟨gb1236, 3, none⟩ = some (.int .i64 a0_3) := (blk_cell BK1236.out 3).trans rfl
      have hcz5_4 : w3.cell? ⟨gb1236, 4, none⟩ = some (.int .i64 a0_4) := (blk_cell BK1236.out 4).trans rfl
      have hfz5_0 := blk_frozen BK1236.out 0
      have hfz5_1 := blk_frozen BK1236.out 1
      have hfz5_2 := blk_frozen BK1236.out 2
      have hfz5_3 := blk_frozen BK1236.out 3
      have hfz5_4 := blk_frozen BK1236.out 4
      go_wp2
      go_meet
      case rel => exact ⟨_, (true), (by first | rfl | (simp; done) | (simp [*]; done) | (simp; rw [Int.tdiv_eq_ediv_of_nonneg (by omega)])), H', ⟨by first | omega | exact Nat.le_refl _⟩, ⟨by (with_reducible repeat (first | refine blk_drewN ?_ _ | refine blk_drew ?_ | refine blk_alloc ?_ _)); exact BK1236.out⟩, ⟨by repeat (first | (with_reducible first | exact HB.out | apply below_alloc | apply pw_below_drewN | apply below_drew1 | refine below_set ?_ GE1236.out) | exact HB.out)⟩⟩
    · rw [if_neg c4] at H
      have c4b0 : decide (a0_1 < 0) = false := decide_eq_false c4
      clear c4
      (first | rw [c4b0] | (simp only [i64_w, i32_w]; rw [c4b0]) | (simp only [c4b2, Bool.not_true, Bool.not_false]) | (simp only [c4b1, Bool.not_true, Bool.not_false]) | skip)
      by_cases c6 : a0_1 ≥ 4
      · rw [if_pos c6] at H
        have c6b0 : decide (4 ≤ a0_1) = true := decide_eq_true c6
        clear c6
        have H' := Aside0.mk H
        clear H
        have hcz7_0 : w3.cell? ⟨gb1236, 0, none⟩ = some (.int .i64 a0_0) := (blk_cell BK1236.out 0).trans rfl
        have hcz7_1 : w3.cell? ⟨gb1236, 1, none⟩ = some (.int .i64 a0_1) := (blk_cell BK1236.out 1).trans rfl
        have hcz7_2 : w3.cell? ⟨gb1236, 2, none⟩ = some (.int .i64 a0_2) := (blk_cell BK1236.out 2).trans rfl
        have hcz7_3 : w3.cell? ⟨gb1236, 3, none⟩ = some (.int .i64 a0_3) := (blk_cell BK1236.out 3).trans rfl
        have hcz7_4 : w3.cell? ⟨gb1236, 4, none⟩ = some (.int .i64 a0_4) := (blk_cell BK1236.out 4).trans rfl
        have hfz7_0 := blk_frozen BK1236.out 0
        have hfz7_1 := blk_frozen BK1236.out 1
        have hfz7_2 := blk_frozen BK1236.out 2
        have hfz7_3 := blk_frozen BK1236.out 3
        have hfz7_4 := blk_frozen BK1236.out 4
        go_wp2
        go_meet
        case rel => exact ⟨_, (true), (by first | rfl | (simp; done) | (simp [*]; done) | (simp; rw [Int.tdiv_eq_ediv_of_nonneg (by omega)])), H', ⟨by first | omega | exact Nat.le_refl _⟩, ⟨by (with_reducible repeat (first | refine blk_drewN ?_ _ | refine blk_drew ?_ | refine blk_alloc ?_ _)); exact BK1236.out⟩, ⟨by repeat (first | (with_reducible first | exact HB.out | apply below_alloc | apply pw_below_drewN | apply below_drew1 | refine below_set ?_ GE1236.out) | exact HB.out)⟩⟩
      · rw [if_neg c6] at H
        have c6b0 : decide (4 ≤ a0_1) = false := decide_eq_false c6
        clear c6
        by_cases c8 : a0_2 < 0
        · rw [if_pos c8] at H
          have c8b0 : decide (a0_2 < 0) = true := decide_eq_true c8
          clear c8
          have H' := Aside0.mk H
          clear H
          have hcz9_0 : w3.cell? ⟨gb1236, 0, none⟩ = some (.int .i64 a0_0) := (blk_cell BK1236.out 0).trans rfl
          have hcz9_1 : w3.cell? ⟨gb1236, 1, none⟩ = some (.int .i64 a0_1) := (blk_cell BK1236.out 1).trans rfl
          have hcz9_2 : w3.cell? ⟨gb1236, 2, none⟩ = some (.int .i64 a0_2) := (blk_cell BK1236.out 2).trans rfl
          have hcz9_3 : w3.cell? ⟨gb1236, 3, none⟩ = some (.int .i64 a0_3) := (blk_cell BK1236.out 3).trans rfl
          have hcz9_4 : w3.cell? ⟨gb1236, 4, none⟩ = some (.int .i64 a0_4) := (blk_cell BK1236.out 4).trans rfl
          have hfz9_0 := blk_frozen BK1236.out 0
          have hfz9_1 := blk_frozen BK1236.out 1
          have hfz9_2 := blk_frozen BK1236.out 2
          have hfz9_3 := blk_frozen BK1236.out 3
          have hfz9_4 := blk_frozen BK1236.out 4
          go_wp2
          go_meet
          case rel => exact ⟨_, (true), (by first | rfl | (simp; done) | (simp [*]; done) | (simp; rw [Int.tdiv_eq_ediv_of_nonneg (by omega)])), H', ⟨by first | omega | exact Nat.le_refl _⟩, ⟨by (with_reducible repeat (first | refine blk_drewN ?_ _ | refine blk_drew ?_ | refine blk_alloc ?_ _)); exact BK1236.out⟩, ⟨by repeat (first | (with_reducible first | exact HB.out | apply below_alloc | apply pw_below_drewN | apply below_drew1 | refine below_set ?_ GE1236.out) | exact HB.out)⟩⟩
        · rw [if_neg c8] at H
          have c8b0 : decide (a0_2 < 0) = false := decide_eq_false c8
          clear c8
          have H' := Aside0.mk H
          clear H
          have hcz10_0 : w3.cell? ⟨gb1236, 0, none⟩ = some (.int .i64 a0_0) := (blk_cell BK1236.out 0).trans rfl
          have hcz10_1 : w3.cell? ⟨gb1236, 1, none⟩ = some (.int .i64 a0_1) := (blk_cell BK1236.out 1).trans rfl
          have hcz10_2 : w3.cell? ⟨gb1236, 2, none⟩ = some (.int .i64 a0_2) := (blk_cell BK1236.out 2).trans rfl
          have hcz10_3 : w3.cell? ⟨gb1236, 3, none⟩ = some (.int .i64 a0_3) := (blk_cell BK1236.out 3).trans rfl
          have hcz10_4 : w3.cell? ⟨gb1236, 4, none⟩ = some (.int .i64 a0_4) := (blk_cell BK1236.out 4).trans rfl
          have hfz10_0 := blk_frozen BK1236.out 0
          have hfz10_1 := blk_frozen BK1236.out 1
          have hfz10_2 := blk_frozen BK1236.out 2
          have hfz10_3 := blk_frozen BK1236.out 3
          have hfz10_4 := blk_frozen BK1236.out 4
          go_wp2
          go_meet
          case rel => exact ⟨_, (decide (a0_2 ≥ 8)), (by first | rfl | (simp; done) | (simp [*]; done) | (simp; rw [Int.tdiv_eq_ediv_of_nonneg (by omega)])), H', ⟨by first | omega | exact Nat.le_refl _⟩, ⟨by (with_reducible repeat (first | refine blk_drewN ?_ _ | refine blk_drew ?_ | refine blk_alloc ?_ _)); exact BK1236.out⟩, ⟨by repeat (first | (with_reducible first | exact HB.out | apply below_alloc | apply pw_below_drewN | apply below_drew1 | refine below_set ?_ GE1236.out) | exact HB.out)⟩⟩
  case rest =>
    clear HC2
    try clear c1
    try clear p2
    try clear c4
    try clear c4b0
    try clear c4b1
    try clear c4b2
    try clear c6
    try clear c6b0
    try clear c8
    try clear c8b0
    try clear hcz10_0
    try clear hcz10_1
    try clear hcz10_2
    try clear hcz10_3
    try clear hcz10_4
    try clear hcz5_0
    try clear hcz5_1
    try clear hcz5_2
    try clear hcz5_3
    try clear hcz5_4
    try clear hcz7_0
    try clear hcz7_1
    try clear hcz7_2
    try clear hcz7_3
    try clear hcz7_4
    try clear hcz9_0
    try clear hcz9_1
    try clear hcz9_2
    try clear hcz9_3
    try clear hcz9_4
    try clear hfz10_0
    try clear hfz10_1
    try clear hfz10_2
    try clear hfz10_3
    try clear hfz10_4
    try clear hfz5_0
    try clear hfz5_1
    try clear hfz5_2
    try clear hfz5_3
    try clear hfz5_4
    try clear hfz7_0
    try clear hfz7_1
    try clear hfz7_2
    try clear hfz7_3
    try clear hfz7_4
    try clear hfz9_0
    try clear hfz9_1
    try clear hfz9_2
    try clear hfz9_3
    try clear hfz9_4
    obtain ⟨kq, x20_1, rfl, HA, HJ1, BK1236, HB⟩ := hcut
    cases kq with
    | zero => exact absurd HA.out (by simp [spec_FactOk.j0])
    | succ kj1 =>
      have H := HA.out
      clear HA
      simp only [spec_FactOk.j0] at H
      by_cases c11 : x20_1 = true
      · subst c11
        rw [if_pos rfl] at H
        obtain rfl := Option.some.inj H
        go_wp2
        go_ret
        exact ⟨by first | rfl | (simp only [i64_w, i32_w] <;> rfl) | (simp [errW_none, errW_some] <;> rfl) | (simp [*, errW_none, errW_some] <;> rfl), by repeat (first | (with_reducible first | exact HB.out | apply below_alloc | apply pw_below_drewN | apply below_drew1 | refine below_set ?_ GE1236.out) | exact HB.out)⟩
      · replace c11 := Bool.eq_false_iff.mpr c11
        subst c11
        rw [if_neg (show ¬ (false = true) by decide)] at H
        have HC12 := Aside0.mk H
        clear H
        have hcz13_0 : wc.cell? ⟨gb1236, 0, none⟩ = some (.int .i64 a0_0) := (blk_cell BK1236.out 0).trans rfl
        have hcz13_1 : wc.cell? ⟨gb1236, 1, none⟩ = some (.int .i64 a0_1) := (blk_cell BK1236.out 1).trans rfl
        have hcz13_2 : wc.cell? ⟨gb1236, 2, none⟩ = some (.int .i64 a0_2) := (blk_cell BK1236.out 2).trans rfl
        have hcz13_3 : wc.cell? ⟨gb1236, 3, none⟩ = some (.int .i64 a0_3) := (blk_cell BK1236.out 3).trans rfl
        have hcz13_4 : wc.cell? ⟨gb1236, 4, none⟩ = some (.int .i64 a0_4) := (blk_cell BK1236.out 4).trans rfl
        have hfz13_0 := blk_frozen BK1236.out 0
        have hfz13_1 := blk_frozen BK1236.out 1
        have hfz13_2 := blk_frozen BK1236.out 2
        have hfz13_3 := blk_frozen BK1236.out 3
        have hfz13_4 := blk_frozen BK1236.out 4
        go_upto_if 23 with (fail)
        go_cut [23] (fun v23 wc => ∃ (kq : Nat) (x23_11 : Bool), v23 = .bool x23_11 ∧ Aside0 (spec_FactOk.j1 kq a0_0 x23_11 a0_0 a0_1 a0_2 a0_3 a0_4 = some r) ∧ Aside0 (kq ≤ kj1) ∧ Aside0 (wc.heap[gb1236]? = some (.cells #[.int .i64 a0_0, .int .i64 a0_1, .int .i64 a0_2, .int .i64 a0_3, .int .i64 a0_4] 95 (0, 0))) ∧ Aside0 (Below w.heap.size w wc))
        case first =>
          have H := HC12.out
          clear HC12
          by_cases c14 : a0_0 = 1
          · rw [if_pos c14] at H
            have c14b0 : (a0_0 == 1) = true := beq_iff_eq.mpr c14
            have c14b1 : (a0_0 != 1) = false := bne_eq_false_iff_eq.mpr c14
            clear c14
            (first | rw [c14b0] | (simp only [i64_w, i32_w]; rw [c14b0]) | (simp only [c14b2, Bool.not_true, Bool.not_false]) | (simp only [c14b1, Bool.not_true, Bool.not_false]) | skip)
            have H' := Aside0.mk H
            clear H
            go_wp2
            go_meet
            case rel => exact ⟨_, ((a0_0 == 1)), (by first | rfl | (simp; done) | (simp [*]; done) | (simp; rw [Int.tdiv_eq_ediv_of_nonneg (by omega)])), H', ⟨by have := HJ1.out; first | omega | exact Nat.le_refl _⟩, ⟨by (with_reducible repeat (first | refine blk_drewN ?_ _ | refine blk_drew ?_ | refine blk_alloc ?_ _)); exact BK1236.out⟩, ⟨by repeat (first | (with_reducible first | exact HB.out | apply below_alloc | apply pw_below_drewN | apply below_drew1 | refine below_set ?_ GE1236.out) | exact HB.out)⟩⟩
          · rw [if_neg c14] at H
            have c14b0 : (a0_0 == 1) = false := beq_eq_false_iff_ne.mpr c14
            have c14b1 : (a0_0 != 1) = true := bne_iff_ne.mpr c14
            (first | rw [c14b0] | (simp only [i64_w, i32_w]; rw [c14b0]) | (simp only [c14b2, Bool.not_true, Bool.not_false]) | (simp only [c14b1, Bool.not_true, Bool.not_false]) | skip)
            have H' := Aside0.mk H
            clear H
            go_wp2
            go_meet
            case rel => exact ⟨_, ((a0_0 == 2)), (by first | rfl | (simp; done) | (simp [*]; done) | (simp; rw [Int.tdiv_eq_ediv_of_nonneg (by omega)])), H', ⟨by have := HJ1.out; first | omega | exact Nat.le_refl _⟩, ⟨by (with_reducible repeat (first | refine blk_drewN ?_ _ | refine blk_drew ?_ | refine blk_alloc ?_ _)); exact BK1236.out⟩, ⟨by repeat (first | (with_reducible first | exact HB.out | apply below_alloc | apply pw_below_drewN | apply below_drew1 | refine below_set ?_ GE1236.out) | exact HB.out)⟩⟩
        case rest =>
          clear HC12
          try clear c1
          try clear p2
          try clear c4
          try clear c4b0
          try clear c4b1
          try clear c4b2
          try clear c6
          try clear c6b0
          try clear c8
          try clear c8b0
          try clear c11
          try clear c12
          try clear c14
          try clear c14b0
          try clear c14b1
          try clear c14b2
          try clear hcz10_0
          try clear hcz10_1
          try clear hcz10_2
          try clear hcz10_3
          try clear hcz10_4
          try clear hcz13_0
          try clear hcz13_1
          try clear hcz13_2
          try clear hcz13_3
          try clear hcz13_4
          try clear hcz5_0
          try clear hcz5_1
          try clear hcz5_2
          try clear hcz5_3
          try clear hcz5_4
          try clear hcz7_0
          try clear hcz7_1
          try clear hcz7_2
          try clear hcz7_3
          try clear hcz7_4
          try clear hcz9_0
          try clear hcz9_1
          try clear hcz9_2
          try clear hcz9_3
          try clear hcz9_4
          try clear hfz10_0
          try clear hfz10_1
          try clear hfz10_2
          try clear hfz10_3
          try clear hfz10_4
          try clear hfz13_0
          try clear hfz13_1
          try clear hfz13_2
          try clear hfz13_3
          try clear hfz13_4
          try clear hfz5_0
          try clear hfz5_1
          try clear hfz5_2
          try clear hfz5_3
          try clear hfz5_4
          try clear hfz7_0
          try clear hfz7_1
          try clear hfz7_2
          try clear hfz7_3
          try clear hfz7_4
          try clear hfz9_0
          try clear hfz9_1
          try clear hfz9_2
          try clear hfz9_3
          try clear hfz9_4
          try clear p2
          obtain ⟨kq, x23_11, rfl, HA, HJ11, BK1236, HB⟩ := hcut
          cases kq with
          | zero => exact absurd HA.out (by simp [spec_FactOk.j1])
          | succ kj11 =>
            have H := HA.out
            clear HA
            simp only [spec_FactOk.j1] at H
            by_cases c15 : x23_11 = true
            · subst c15
              rw [if_pos rfl] at H
              by_cases c16 : a0_3 ≥ 0
              · rw [if_pos c16] at H
                have c16b0 : decide (0 ≤ a0_3) = true := decide_eq_true c16
                clear c16
                by_cases c17 : a0_3 ≤ 255
                · rw [if_pos c17] at H
                  have c17b0 : decide (a0_3 ≤ 255) = true := decide_eq_true c17
                  clear c17
                  obtain rfl := Option.some.inj H
                  have hcz18_0 : wc.cell? ⟨gb1236, 0, none⟩ = some (.int .i64 a0_0) := (blk_cell BK1236.out 0).trans rfl
                  have hcz18_1 : wc.cell? ⟨gb1236, 1, none⟩ = some (.int .i64 a0_1) := (blk_cell BK1236.out 1).trans rfl
                  have hcz18_2 : wc.cell? ⟨gb1236, 2, none⟩ = some (.int .i64 a0_2) := (blk_cell BK1236.out 2).trans rfl
                  have hcz18_3 : wc.cell? ⟨gb1236, 3, none⟩ = some (.int .i64 a0_3) := (blk_cell BK1236.out 3).trans rfl
                  have hcz18_4 : wc.cell? ⟨gb1236, 4, none⟩ = some (.int .i64 a0_4) := (blk_cell BK1236.out 4).trans rfl
                  have hfz18_0 := blk_frozen BK1236.out 0
                  have hfz18_1 := blk_frozen BK1236.out 1
                  have hfz18_2 := blk_frozen BK1236.out 2
                  have hfz18_3 := blk_frozen BK1236.out 3
                  have hfz18_4 := blk_frozen BK1236.out 4
                  go_wp2
                  go_ret
                  exact ⟨by first | rfl | (simp only [i64_w, i32_w] <;> rfl) | (simp [errW_none, errW_some] <;> rfl) | (simp [*, errW_none, errW_some] <;> rfl), by repeat (first | (with_reducible first | exact HB.out | apply below_alloc | apply pw_below_drewN | apply below_drew1 | refine below_set ?_ GE1236.out) | exact HB.out)⟩
                · rw [if_neg c17] at H
                  have c17b0 : decide (a0_3 ≤ 255) = false := decide_eq_false c17
                  clear c17
                  obtain rfl := Option.some.inj H
                  have hcz19_0 : wc.cell? ⟨gb1236, 0, none⟩ = some (.int .i64 a0_0) := (blk_cell BK1236.out 0).trans rfl
                  have hcz19_1 : wc.cell? ⟨gb1236, 1, none⟩ = some (.int .i64 a0_1) := (blk_cell BK1236.out 1).trans rfl
                  have hcz19_2 : wc.cell? ⟨gb1236, 2, none⟩ = some (.int .i64 a0_2) := (blk_cell BK1236.out 2).trans rfl
                  have hcz19_3 : wc.cell? ⟨gb1236, 3, none⟩ = some (.int .i64 a0_3) := (blk_cell BK1236.out 3).trans rfl
                  have hcz19_4 : wc.cell? ⟨gb1236, 4, none⟩ = some (.int .i64 a0_4) := (blk_cell BK1236.out 4).trans rfl
                  have hfz19_0 := blk_frozen BK1236.out 0
                  have hfz19_1 := blk_frozen BK1236.out 1
                  have hfz19_2 := blk_frozen BK1236.out 2
                  have hfz19_3 := blk_frozen BK1236.out 3
                  have hfz19_4 := blk_frozen BK1236.out 4
                  go_wp2
                  go_ret
                  exact ⟨by first | rfl | (simp only [i64_w, i32_w] <;> rfl) | (simp [errW_none, errW_some] <;> rfl) | (simp [*, errW_none, errW_some] <;> rfl), by repeat (first | (with_reducible first | exact HB.out | apply below_alloc | apply pw_below_drewN | apply below_drew1 | refine below_set ?_ GE1236.out) | exact HB.out)⟩
              · rw [if_neg c16] at H
                have c16b0 : decide (0 ≤ a0_3) = false := decide_eq_false c16
                clear c16
                obtain rfl := Option.some.inj H
                have hcz20_0 : wc.cell? ⟨gb1236, 0, none⟩ = some (.int .i64 a0_0) := (blk_cell BK1236.out 0).trans rfl
                have hcz20_1 : wc.cell? ⟨gb1236, 1, none⟩ = some (.int .i64 a0_1) := (blk_cell BK1236.out 1).trans rfl
                have hcz20_2 : wc.cell? ⟨gb1236, 2, none⟩ = some (.int .i64 a0_2) := (blk_cell BK1236.out 2).trans rfl
                have hcz20_3 : wc.cell? ⟨gb1236, 3, none⟩ = some (.int .i64 a0_3) := (blk_cell BK1236.out 3).trans rfl
                have hcz20_4 : wc.cell? ⟨gb1236, 4, none⟩ = some (.int .i64 a0_4) := (blk_cell BK1236.out 4).trans rfl
                have hfz20_0 := blk_frozen BK1236.out 0
                have hfz20_1 := blk_frozen BK1236.out 1
                have hfz20_2 := blk_frozen BK1236.out 2
                have hfz20_3 := blk_frozen BK1236.out 3
                have hfz20_4 := blk_frozen BK1236.out 4
                go_wp2
                go_ret
                exact ⟨by first | rfl | (simp only [i64_w, i32_w] <;> rfl) | (simp [errW_none, errW_some] <;> rfl) | (simp [*, errW_none, errW_some] <;> rfl), by repeat (first | (with_reducible first | exact HB.out | apply below_alloc | apply pw_below_drewN | apply below_drew1 | refine below_set ?_ GE1236.out) | exact HB.out)⟩
            · replace c15 := Bool.eq_false_iff.mpr c15
              subst c15
              rw [if_neg (show ¬ (false = true) by decide)] at H
              by_cases c21 : a0_0 = 3
              · rw [if_pos c21] at H
                have c21b0 : (a0_0 == 3) = true := beq_iff_eq.mpr c21
                have c21b1 : (a0_0 != 3) = false := bne_eq_false_iff_eq.mpr c21
                clear c21
                by_cases c22 : a0_3 = (-1)
                · rw [if_pos c22] at H
                  have c22b0 : (a0_3 == (-1)) = true := beq_iff_eq.mpr c22
                  have c22b1 : (a0_3 != (-1)) = false := bne_eq_false_iff_eq.mpr c22
                  clear c22
                  by_cases c23 : a0_4 ≥ 1
                  · rw [if_pos c23] at H
                    have c23b0 : decide (1 ≤ a0_4) = true := decide_eq_true c23
                    clear c23
                    obtain rfl := Option.some.inj H
                    have hcz24_0 : wc.cell? ⟨gb1236, 0, none⟩ = some (.int .i64 a0_0) := (blk_cell BK1236.out 0).trans rfl
                    have hcz24_1 : wc.cell? ⟨gb1236, 1, none⟩ = some (.int .i64 a0_1) := (blk_cell BK1236.out 1).trans rfl
                    have hcz24_2 : wc.cell? ⟨gb1236, 2, none⟩ = some (.int .i64 a0_2) := (blk_cell BK1236.out 2).trans rfl
                    have hcz24_3 : wc.cell? ⟨gb1236, 3, none⟩ = some (.int .i64 a0_3) := (blk_cell BK1236.out 3).trans rfl
                    have hcz24_4 : wc.cell? ⟨gb1236, 4, none⟩ = some (.int .i64 a0_4) := (blk_cell BK1236.out 4).trans rfl
                    have hfz24_0 := blk_frozen BK1236.out 0
                    have hfz24_1 := blk_frozen BK1236.out 1
                    have hfz24_2 := blk_frozen BK1236.out 2
                    have hfz24_3 := blk_frozen BK1236.out 3
                    have hfz24_4 := blk_frozen BK1236.out 4
                    go_wp2
                    go_ret
                    exact ⟨by first | rfl | (simp only [i64_w, i32_w] <;> rfl) | (simp [errW_none, errW_some] <;> rfl) | (simp [*, errW_none, errW_some] <;> rfl), by repeat (first | (with_reducible first | exact HB.out | apply below_alloc | apply pw_below_drewN | apply below_drew1 | refine below_set ?_ GE1236.out) | exact HB.out)⟩
                  · rw [if_neg c23] at H
                    have c23b0 : decide (1 ≤ a0_4) = false := decide_eq_false c23
                    clear c23
                    obtain rfl := Option.some.inj H
                    have hcz25_0 : wc.cell? ⟨gb1236, 0, none⟩ = some (.int .i64 a0_0) := (blk_cell BK1236.out 0).trans rfl
                    have hcz25_1 : wc.cell? ⟨gb1236, 1, none⟩ = some (.int .i64 a0_1) := (blk_cell BK1236.out 1).trans rfl
                    have hcz25_2 : wc.cell? ⟨gb1236, 2, none⟩ = some (.int .i64 a0_2) := (blk_cell BK1236.out 2).trans rfl
                    have hcz25_3 : wc.cell? ⟨gb1236, 3, none⟩ = some (.int .i64 a0_3) := (blk_cell BK1236.out 3).trans rfl
                    have hcz25_4 : wc.cell? ⟨gb1236, 4, none⟩ = some (.int .i64 a0_4) := (blk_cell BK1236.out 4).trans rfl
                    have hfz25_0 := blk_frozen BK1236.out 0
                    have hfz25_1 := blk_frozen BK1236.out 1
                    have hfz25_2 := blk_frozen BK1236.out 2
                    have hfz25_3 := blk_frozen BK1236.out 3
                    have hfz25_4 := blk_frozen BK1236.out 4
                    go_wp2
                    go_ret
                    exact ⟨by first | rfl | (simp only [i64_w, i32_w] <;> rfl) | (simp [errW_none, errW_some] <;> rfl) | (simp [*, errW_none, errW_some] <;> rfl), by repeat (first | (with_reducible first | exact HB.out | apply below_alloc | apply pw_below_drewN | apply below_drew1 | refine below_set ?_ GE1236.out) | exact HB.out)⟩
                · rw [if_neg c22] at H
                  have c22b0 : (a0_3 == (-1)) = false := beq_eq_false_iff_ne.mpr c22
                  have c22b1 : (a0_3 != (-1)) = true := bne_iff_ne.mpr c22
                  obtain rfl := Option.some.inj H
                  have hcz26_0 : wc.cell? ⟨gb1236, 0, none⟩ = some (.int .i64 a0_0) := (blk_cell BK1236.out 0).trans rfl
                  have hcz26_1 : wc.cell? ⟨gb1236, 1, none⟩ = some (.int .i64 a0_1) := (blk_cell BK1236.out 1).trans rfl
                  have hcz26_2 : wc.cell? ⟨gb1236, 2, none⟩ = some (.int .i64 a0_2) := (blk_cell BK1236.out 2).trans rfl
                  have hcz26_3 : wc.cell? ⟨gb1236, 3, none⟩ = some (.int .i64 a0_3) := (blk_cell BK1236.out 3).trans rfl
                  have hcz26_4 : wc.cell? ⟨gb1236, 4, none⟩ = some (.int .i64 a0_4) := (blk_cell BK1236.out 4).trans rfl
                  have hfz26_0 := blk_frozen BK1236.out 0
                  have hfz26_1 := blk_frozen BK1236.out 1
                  have hfz26_2 := blk_frozen BK1236.out 2
                  have hfz26_3 := blk_frozen BK1236.out 3
                  have hfz26_4 := blk_frozen BK1236.out 4
                  go_wp2
                  go_ret
                  exact ⟨by first | rfl | (simp only [i64_w, i32_w] <;> rfl) | (simp [errW_none, errW_some] <;> rfl) | (simp [*, errW_none, errW_some] <;> rfl), by repeat (first | (with_reducible first | exact HB.out | apply below_alloc | apply pw_below_drewN | apply below_drew1 | refine below_set ?_ GE1236.out) | exact HB.out)⟩
              · rw [if_neg c21] at H
                have c21b0 : (a0_0 == 3) = false := beq_eq_false_iff_ne.mpr c21
                have c21b1 : (a0_0 != 3) = true := bne_iff_ne.mpr c21
                by_cases c27 : a0_0 = 4
                · rw [if_pos c27] at H
                  have c27b0 : (a0_0 == 4) = true := beq_iff_eq.mpr c27
                  have c27b1 : (a0_0 != 4) = false := bne_eq_false_iff_eq.mpr c27
                  clear c27
                  by_cases c28 : a0_3 ≥ 0
                  · rw [if_pos c28] at H
                    have c28b0 : decide (0 ≤ a0_3) = true := decide_eq_true c28
                    clear c28
                    by_cases c29 : a0_3 ≤ 4095
                    · rw [if_pos c29] at H
                      have c29b0 : decide (a0_3 ≤ 4095) = true := decide_eq_true c29
                      clear c29
                      obtain rfl := Option.some.inj H
                      have hcz30_0 : wc.cell? ⟨gb1236, 0, none⟩ = some (.int .i64 a0_0) := (blk_cell BK1236.out 0).trans rfl
                      have hcz30_1 : wc.cell? ⟨gb1236, 1, none⟩ = some (.int .i64 a0_1) := (blk_cell BK1236.out 1).trans rfl
                      have hcz30_2 : wc.cell? ⟨gb1236, 2, none⟩ = some (.int .i64 a0_2) := (blk_cell BK1236.out 2).trans rfl
                      have hcz30_3 : wc.cell? ⟨gb1236, 3, none⟩ = some (.int .i64 a0_3) := (blk_cell BK1236.out 3).trans rfl
                      have hcz30_4 : wc.cell? ⟨gb1236, 4, none⟩ = some (.int .i64 a0_4) := (blk_cell BK1236.out 4).trans rfl
                      have hfz30_0 := blk_frozen BK1236.out 0
                      have hfz30_1 := blk_frozen BK1236.out 1
                      have hfz30_2 := blk_frozen BK1236.out 2
                      have hfz30_3 := blk_frozen BK1236.out 3
                      have hfz30_4 := blk_frozen BK1236.out 4
                      go_wp2
                      go_ret
                      exact ⟨by first | rfl | (simp only [i64_w, i32_w] <;> rfl) | (simp [errW_none, errW_some] <;> rfl) | (simp [*, errW_none, errW_some] <;> rfl), by repeat (first | (with_reducible first | exact HB.out | apply below_alloc | apply pw_below_drewN | apply below_drew1 | refine below_set ?_ GE1236.out) | exact HB.out)⟩
                    · rw [if_neg c29] at H
                      have c29b0 : decide (a0_3 ≤ 4095) = false := decide_eq_false c29
                      clear c29
                      obtain rfl := Option.some.inj H
                      have hcz31_0 : wc.cell? ⟨gb1236, 0, none⟩ = some (.int .i64 a0_0) := (blk_cell BK1236.out 0).trans rfl
                      have hcz31_1 : wc.cell? ⟨gb1236, 1, none⟩ = some (.int .i64 a0_1) := (blk_cell BK1236.out 1).trans rfl
                      have hcz31_2 : wc.cell? ⟨gb1236, 2, none⟩ = some (.int .i64 a0_2) := (blk_cell BK1236.out 2).trans rfl
                      have hcz31_3 : wc.cell? ⟨gb1236, 3, none⟩ = some (.int .i64 a0_3) := (blk_cell BK1236.out 3).trans rfl
                      have hcz31_4 : wc.cell? ⟨gb1236, 4, none⟩ = some (.int .i64 a0_4) := (blk_cell BK1236.out 4).trans rfl
                      have hfz31_0 := blk_frozen BK1236.out 0
                      have hfz31_1 := blk_frozen BK1236.out 1
                      have hfz31_2 := blk_frozen BK1236.out 2
                      have hfz31_3 := blk_frozen BK1236.out 3
                      have hfz31_4 := blk_frozen BK1236.out 4
                      go_wp2
                      go_ret
                      exact ⟨by first | rfl | (simp only [i64_w, i32_w] <;> rfl) | (simp [errW_none, errW_some] <;> rfl) | (simp [*, errW_none, errW_some] <;> rfl), by repeat (first | (with_reducible first | exact HB.out | apply below_alloc | apply pw_below_drewN | apply below_drew1 | refine below_set ?_ GE1236.out) | exact HB.out)⟩
                  · rw [if_neg c28] at H
                    have c28b0 : decide (0 ≤ a0_3) = false := decide_eq_false c28
                    clear c28
                    obtain rfl := Option.some.inj H
                    have hcz32_0 : wc.cell? ⟨gb1236, 0, none⟩ = some (.int .i64 a0_0) := (blk_cell BK1236.out 0).trans rfl
                    have hcz32_1 : wc.cell? ⟨gb1236, 1, none⟩ = some (.int .i64 a0_1) := (blk_cell BK1236.out 1).trans rfl
                    have hcz32_2 : wc.cell? ⟨gb1236, 2, none⟩ = some (.int .i64 a0_2) := (blk_cell BK1236.out 2).trans rfl
                    have hcz32_3 : wc.cell? ⟨gb1236, 3, none⟩ = some (.int .i64 a0_3) := (blk_cell BK1236.out 3).trans rfl
                    have hcz32_4 : wc.cell? ⟨gb1236, 4, none⟩ = some (.int .i64 a0_4) := (blk_cell BK1236.out 4).trans rfl
                    have hfz32_0 := blk_frozen BK1236.out 0
                    have hfz32_1 := blk_frozen BK1236.out 1
                    have hfz32_2 := blk_frozen BK1236.out 2
                    have hfz32_3 := blk_frozen BK1236.out 3
                    have hfz32_4 := blk_frozen BK1236.out 4
                    go_wp2
                    go_ret
                    exact ⟨by first | rfl | (simp only [i64_w, i32_w] <;> rfl) | (simp [errW_none, errW_some] <;> rfl) | (simp [*, errW_none, errW_some] <;> rfl), by repeat (first | (with_reducible first | exact HB.out | apply below_alloc | apply pw_below_drewN | apply below_drew1 | refine below_set ?_ GE1236.out) | exact HB.out)⟩
                · rw [if_neg c27] at H
                  have c27b0 : (a0_0 == 4) = false := beq_eq_false_iff_ne.mpr c27
                  have c27b1 : (a0_0 != 4) = true := bne_iff_ne.mpr c27
                  obtain rfl := Option.some.inj H
                  go_wp2
                  go_ret
                  exact ⟨by first | rfl | (simp only [i64_w, i32_w] <;> rfl) | (simp [errW_none, errW_some] <;> rfl) | (simp [*, errW_none, errW_some] <;> rfl), by repeat (first | (with_reducible first | exact HB.out | apply below_alloc | apply pw_below_drewN | apply below_drew1 | refine below_set ?_ GE1236.out) | exact HB.out)⟩

/-! ### spec_FactDo: function 65 -/
def spec_FactDo.j0 : Nat → List (S43) → Int → Bool → Int → Int → Int → Int → Int → Option ((List (S43)) × Bool)
  | 0, _, _, _, _, _, _, _, _ => none
  | k + 1, x0, x6, x22, x1238000, x1238001, x1238002, x1238003, x1238004 => if x22 = true then (some (([] : List (S43)), false)) else ((some (([] : List (S43)) : List (S43))).bind fun y1240 => (if y1240.length + x0.length < 8796093022208 then ((some (y1240 ++ x0 : List (S43))).bind fun y1243 => (if x1238000 = 1 then ((spec_LiveAdd.f k x0 x6 x1238003 x1238004).bind fun bt1246 => (some (bt1246.1, bt1246.2))) else (if x1238000 = 2 then ((spec_LiveCut.f k x0 x6 x1238003).bind fun bt1250 => (if bt1250.2.2 = true then (if bt1250.2.1 = x1238004 then (some (bt1250.1, true)) else (some (([] : List (S43)), false))) else (some (([] : List (S43)), false)))) else (if x1238000 = 4 then ((spec_LiveCut.f k x0 x6 x1238003).bind fun bt1255 => (if bt1255.2.2 = true then (some (([] : List (S43)), false)) else (some (y1243, true)))) else (some (y1243, true)))))) else (none)))
def spec_FactDo.f (k : Nat) (l0 : List (S43)) (a1_0 : Int) (a1_1 : Int) (a1_2 : Int) (a1_3 : Int) (a1_4 : Int) : Option ((List (S43)) × Bool) := (spec_LiveOk.f k l0 256).bind fun t1238 => (if t1238 = true then ((spec_FactOk.f k a1_0 a1_1 a1_2 a1_3 a1_4).bind fun t1239 => (spec_FactDo.j0 k l0 256 (!t1239) a1_0 a1_1 a1_2 a1_3 a1_4)) else (spec_FactDo.j0 k l0 256 true a1_0 a1_1 a1_2 a1_3 a1_4))
theorem spec_FactDo.mono_l : ∀ k, (∀ y0 y1 y2 y3 y4 y5 y6 y7, LeO (spec_FactDo.j0 k y0 y1 y2 y3 y4 y5 y6 y7) (spec_FactDo.j0 (k + 1) y0 y1 y2 y3 y4 y5 y6 y7))
  | 0 => fun _ _ _ _ _ _ _ _ r h => by simp [spec_FactDo.j0] at h
  | k + 1 => by
    have ih0 := spec_FactDo.mono_l k
    · intro y0 y1 y2 y3 y4 y5 y6 y7
      unfold spec_FactDo.j0
      repeat' first
      | (with_reducible exact ih0 _ _ _ _ _ _ _ _)
      | (with_reducible exact spec_FactOk.mono _ _ _ _ _ _)
      | (with_reducible exact spec_LiveAdd.mono _ _ _ _ _)
      | (with_reducible exact spec_LiveCut.mono _ _ _ _)
      | (with_reducible exact spec_LiveOk.mono _ _ _)
      | (with_reducible exact LeO.refl _)
      | (with_reducible exact LeO.none _)
      | (with_reducible refine LeO.ite ?_ ?_)
      | (with_reducible refine LeO.bind ?_ (fun _ => ?_))
      | exact ih0 _ _ _ _ _ _ _ _
      | exact spec_FactOk.mono _ _ _ _ _ _
      | exact spec_LiveAdd.mono _ _ _ _ _
      | exact spec_LiveCut.mono _ _ _ _
      | exact spec_LiveOk.mono _ _ _
      | exact LeO.none _
      | refine LeO.ite ?_ ?_
      | refine LeO.bind ?_ (fun _ => ?_)
theorem spec_FactDo.mono : ∀ a0 a1 a2 a3 a4 a5 k, LeO (spec_FactDo.f k a0 a1 a2 a3 a4 a5) (spec_FactDo.f (k + 1) a0 a1 a2 a3 a4 a5) := by
  intro a0 a1 a2 a3 a4 a5 k
  have ih0 := spec_FactDo.mono_l k
  unfold spec_FactDo.f
  repeat' first
      | (with_reducible exact ih0 _ _ _ _ _ _ _ _)
      | (with_reducible exact spec_FactOk.mono _ _ _ _ _ _)
      | (with_reducible exact spec_LiveAdd.mono _ _ _ _ _)
      | (with_reducible exact spec_LiveCut.mono _ _ _ _)
      | (with_reducible exact spec_LiveOk.mono _ _ _)
      | (with_reducible exact LeO.refl _)
      | (with_reducible exact LeO.none _)
      | (with_reducible refine LeO.ite ?_ ?_)
      | (with_reducible refine LeO.bind ?_ (fun _ => ?_))
      | exact ih0 _ _ _ _ _ _ _ _
      | exact spec_FactOk.mono _ _ _ _ _ _
      | exact spec_LiveAdd.mono _ _ _ _ _
      | exact spec_LiveCut.mono _ _ _ _
      | exact spec_LiveOk.mono _ _ _
      | exact LeO.none _
      | refine LeO.ite ?_ ?_
      | refine LeO.bind ?_ (fun _ => ?_)
set_option maxHeartbeats 8000000 in
set_option maxRecDepth 100000 in
theorem spec_FactDo.calls (k : Nat) (A0 : Option Addr) (c0 : Nat) (l0 : List (S43)) (a1_0 : Int) (a1_1 : Int) (a1_2 : Int) (a1_3 : Int) (a1_4 : Int) (r1 : List (S43)) (r2 : Bool) (w : World) (hr0 : Kd.C k43 w A0 l0.length l0) (hc0 : l0.length ≤ c0) (h : spec_FactDo.f k l0 a1_0 a1_1 a1_2 a1_3 a1_4 = some (r1, r2)) :
    Calls Try.prog 65 #[.slice A0 l0.length c0, .agg #[.int .i64 a1_0, .int .i64 a1_1, .int .i64 a1_2, .int .i64 a1_3, .int .i64 a1_4]] w fun e w' => ∃ v0_ : Value, e = .returned (.tuple #[v0_, .bool r2]) ∧ Kd.R k43 43 w' w.heap.size (fun _ => True) v0_ r1 ∧ Below w.heap.size w w' := by
  have hu95 := Try.underlying95
  have hu43 := Try.underlying43
  have HR0 := Aside0.mk hr0
  have HC0 := Aside0.mk hc0
  clear hr0 hc0
  have HB := Aside0.mk (Below.refl w.heap.size w)
  unfold spec_FactDo.f at h
  have H := h
  clear h
  have HC3 := Aside0.mk H
  clear H
  go_enter Try.func65, Try.ntmps65
  go_upto_region 2 with (first | ((with_reducible refine gate_dst (N := 3) rfl ?_); refine box_event ?hg (N := 3) ?hd (cs := #[.int .i64 a1_0, .int .i64 a1_1, .int .i64 a1_2, .int .i64 a1_3, .int .i64 a1_4]) (t := 95) ?hr ?_; (case hd => rfl); (case hg => rfl); (case hr => first | (go_simp; done) | (go_simp; rfl)); intro gb1237 hg w4 hbox hb; have n0_ := Aside0.mk (below_step (by repeat (first | (with_reducible first | exact HB.out | apply below_alloc | apply pw_below_drewN | apply below_drew1) | exact HB.out)) hb); have n1_ := Aside0.mk (hbox); have n2_ := Aside0.mk ((by rw [hg]; exact (below_size (by repeat (first | (with_reducible first | exact HB.out | apply below_alloc | apply pw_below_drewN | apply below_drew1) | exact HB.out))) : w.heap.size ≤ gb1237)); have n3_ := Aside0.mk ((by rw [hg]; exact (below_size (by repeat (first | (with_reducible first | exact HB.out | apply below_alloc | apply pw_below_drewN | apply below_drew1) | exact HB.out))) : w.heap.size ≤ gb1237)); clear HB; have HB := n0_; have BK1237 := n1_; have GW1237 := n2_; have GE1237 := n3_; clear n0_ n1_ n2_ n3_; clear hb hbox hg))
  (try simp only [Act.put, List.setIfInBounds_toArray, List.set_cons_zero, List.set_cons_succ])
  go_cut [22] (fun v22 wc => ∃ (kq : Nat) (x22_2 : Bool), v22 = .bool x22_2 ∧ Aside0 (spec_FactDo.j0 kq l0 256 x22_2 a1_0 a1_1 a1_2 a1_3 a1_4 = some (r1, r2)) ∧ Aside0 (kq ≤ k) ∧ Aside0 (wc.heap[gb1237]? = some (.cells #[.int .i64 a1_0, .int .i64 a1_1, .int .i64 a1_2, .int .i64 a1_3, .int .i64 a1_4] 95 (0, 0))) ∧ Aside0 (Below w.heap.size w wc))
  case first =>
    have H := HC3.out
    clear HC3
    replace H := Option.bind_eq_some_iff.mp H
    obtain ⟨t1238, A50, H⟩ := H
    try dsimp only at H
    have A5 := Aside0.mk A50
    clear A50
    by_cases c6 : t1238 = true
    · subst c6
      (try simp only [Bool.not_true, Bool.not_false])
      rw [if_pos rfl] at H
      replace H := Option.bind_eq_some_iff.mp H
      obtain ⟨t1239, A70, H⟩ := H
      try dsimp only at H
      have A7 := Aside0.mk A70
      clear A70
      have H' := Aside0.mk H
      clear H
      go_wp2_with (first | ((with_reducible refine gate_callee (f := 76) rfl ?_); refine goesL_ (some 16) rfl rfl Try.func76 (by kernel_rfl) rfl #[.slice A0 l0.length c0, .int .i64 256] rfl (by (try simp only [List.map_toArray, List.map_cons, List.map_nil]); first | done | rfl | (simp only [List.length_drop, List.length_take]; rfl)) ?_; (with_reducible refine (spec_LiveOk.calls k _ _ l0 256 true _ ?side1 ?side2 A5.out).mono ?_); (case side1 => repeat (first | exact (Kd.C_below HR0.out HB.out) | (with_reducible refine Kd.C_alloc ?_ _) | (with_reducible refine Kd.C_drewN ?_ _) | (with_reducible refine Kd.C_drew ?_))); (case side2 => exact HC0.out); rintro e w8 ⟨rfl, hb⟩; refine ⟨_, rfl, ?_⟩; have n0_ := Aside0.mk (blk_below (g := gb1237) (o := .cells #[.int .i64 a1_0, .int .i64 a1_1, .int .i64 a1_2, .int .i64 a1_3, .int .i64 a1_4] 95 (0, 0)) (by (with_reducible repeat (first | refine blk_drewN ?_ _ | refine blk_drew ?_ | refine blk_alloc ?_ _)); exact BK1237.out) hb); have n1_ := Aside0.mk (below_step (by repeat (first | (with_reducible first | exact HB.out | apply below_alloc | apply pw_below_drewN | apply below_drew1 | refine below_set ?_ GE1237.out) | exact HB.out)) hb); clear BK1237; clear HB; have BK1237 := n0_; have HB := n1_; clear n0_ n1_; (try clear hb); (try clear hb2); (try clear hk); (try clear hi); have hcz9_0 : w8.cell? ⟨gb1237, 0, none⟩ = some (.int .i64 a1_0) := (blk_cell BK1237.out 0).trans rfl; have hcz9_1 : w8.cell? ⟨gb1237, 1, none⟩ = some (.int .i64 a1_1) := (blk_cell BK1237.out 1).trans rfl; have hcz9_2 : w8.cell? ⟨gb1237, 2, none⟩ = some (.int .i64 a1_2) := (blk_cell BK1237.out 2).trans rfl; have hcz9_3 : w8.cell? ⟨gb1237, 3, none⟩ = some (.int .i64 a1_3) := (blk_cell BK1237.out 3).trans rfl; have hcz9_4 : w8.cell? ⟨gb1237, 4, none⟩ = some (.int .i64 a1_4) := (blk_cell BK1237.out 4).trans rfl; have hfz9_0 := blk_frozen BK1237.out 0; have hfz9_1 := blk_frozen BK1237.out 1; have hfz9_2 := blk_frozen BK1237.out 2; have hfz9_3 := blk_frozen BK1237.out 3; have hfz9_4 := blk_frozen BK1237.out 4) | (go_at_call 127; (with_reducible refine (spec_FactOk.calls k a1_0 a1_1 a1_2 a1_3 a1_4 t1239 _ A7.out).mono ?_); rintro e w10 ⟨rfl, hb⟩; have n0_ := Aside0.mk (blk_below (g := gb1237) (o := .cells #[.int .i64 a1_0, .int .i64 a1_1, .int .i64 a1_2, .int .i64 a1_3, .int .i64 a1_4] 95 (0, 0)) (by (with_reducible repeat (first | refine blk_drewN ?_ _ | refine blk_drew ?_ | refine blk_alloc ?_ _)); exact BK1237.out) hb); have n1_ := Aside0.mk (below_step (by repeat (first | (with_reducible first | exact HB.out | apply below_alloc | apply pw_below_drewN | apply below_drew1 | refine below_set ?_ GE1237.out) | exact HB.out)) hb); clear BK1237; clear HB; have BK1237 := n0_; have HB := n1_; clear n0_ n1_; (try clear hb); (try clear hb2); (try clear hk); (try clear hi)))
      go_meet
      case rel => exact ⟨_, (!t1239), (by first | rfl | (simp; done) | (simp [*]; done) | (simp; rw [Int.tdiv_eq_ediv_of_nonneg (by omega)])), H', ⟨by first | omega | exact Nat.le_refl _⟩, ⟨by (with_reducible repeat (first | refine blk_drewN ?_ _ | refine blk_drew ?_ | refine blk_alloc ?_ _)); exact BK1237.out⟩, ⟨by repeat (first | (with_reducible first | exact HB.out | apply below_alloc | apply pw_below_drewN | apply below_drew1 | refine below_set ?_ GE1237.out) | exact HB.out)⟩⟩
    · replace c6 := Bool.eq_false_iff.mpr c6
      subst c6
      (try simp only [Bool.not_true, Bool.not_false])
      rw [if_neg (show ¬ (false = true) by decide)] at H
      have H' := Aside0.mk H
      clear H
      go_wp2_with (first | ((with_reducible refine gate_callee (f := 76) rfl ?_); refine goesL_ (some 16) rfl rfl Try.func76 (by kernel_rfl) rfl #[.slice A0 l0.length c0, .int .i64 256] rfl (by (try simp only [List.map_toArray, List.map_cons, List.map_nil]); first | done | rfl | (simp only [List.length_drop, List.length_take]; rfl)) ?_; (with_reducible refine (spec_LiveOk.calls k _ _ l0 256 false _ ?side1 ?side2 A5.out).mono ?_); (case side1 => repeat (first | exact (Kd.C_below HR0.out HB.out) | (with_reducible refine Kd.C_alloc ?_ _) | (with_reducible refine Kd.C_drewN ?_ _) | (with_reducible refine Kd.C_drew ?_))); (case side2 => exact HC0.out); rintro e w11 ⟨rfl, hb⟩; refine ⟨_, rfl, ?_⟩; have n0_ := Aside0.mk (blk_below (g := gb1237) (o := .cells #[.int .i64 a1_0, .int .i64 a1_1, .int .i64 a1_2, .int .i64 a1_3, .int .i64 a1_4] 95 (0, 0)) (by (with_reducible repeat (first | refine blk_drewN ?_ _ | refine blk_drew ?_ | refine blk_alloc ?_ _)); exact BK1237.out) hb); have n1_ := Aside0.mk (below_step (by repeat (first | (with_reducible first | exact HB.out | apply below_alloc | apply pw_below_drewN | apply below_drew1 | refine below_set ?_ GE1237.out) | exact HB.out)) hb); clear BK1237; clear HB; have BK1237 := n0_; have HB := n1_; clear n0_ n1_; (try clear hb); (try clear hb2); (try clear hk); (try clear hi)))
      go_meet
      case rel => exact ⟨_, (true), (by first | rfl | (simp; done) | (simp [*]; done) | (simp; rw [Int.tdiv_eq_ediv_of_nonneg (by omega)])), H', ⟨by first | omega | exact Nat.le_refl _⟩, ⟨by (with_reducible repeat (first | refine blk_drewN ?_ _ | refine blk_drew ?_ | refine blk_alloc ?_ _)); exact BK1237.out⟩, ⟨by repeat (first | (with_reducible first | exact HB.out | apply below_alloc | apply pw_below_drewN | apply below_drew1 | refine below_set ?_ GE1237.out) | exact HB.out)⟩⟩
  case rest =>
    clear HC3
    try clear p2
    try clear c6
    try clear c7
    try clear hcz9_0
    try clear hcz9_1
    try clear hcz9_2
    try clear hcz9_3
    try clear hcz9_4
    try clear hfz9_0
    try clear hfz9_1
    try clear hfz9_2
    try clear hfz9_3
    try clear hfz9_4
    obtain ⟨kq, x22_2, rfl, HA, HJ2, BK1237, HB⟩ := hcut
    cases kq with
    | zero => exact absurd HA.out (by simp [spec_FactDo.j0])
    | succ kj2 =>
      have H := HA.out
      clear HA
      simp only [spec_FactDo.j0] at H
      by_cases c12 : x22_2 = true
      · subst c12
        rw [if_pos rfl] at H
        simp only [Option.some.injEq, Prod.mk.injEq] at H
        obtain ⟨rfl, rfl⟩ := H
        go_wp2
        go_ret2
        exact ⟨_, by first | rfl | (simp only [i64_w, i32_w] <;> rfl) | (simp [errW_none, errW_some] <;> rfl) | (simp [*, errW_none, errW_some] <;> rfl), by first | exact Kd.R_nil _ _ _ _ _ | exact Kd.N_nil _ _ _ _ _ | exact Kd.V_nil _ _ _ _ _ | exact Kd.Q_nil _ _ _ _ _ | exact Kd.S_nil _ _ _ _ _, by repeat (first | (with_reducible first | exact HB.out | apply below_alloc | apply pw_below_drewN | apply below_drew1 | refine below_set ?_ GE1237.out) | exact HB.out)⟩
      · replace c12 := Bool.eq_false_iff.mpr c12
        subst c12
        rw [if_neg (show ¬ (false = true) by decide)] at H
        obtain ⟨y1240, hy1240⟩ : ∃ y_ : List (S43), y_ = (([] : List (S43))) := ⟨_, rfl⟩
        replace H : (if y1240.length + l0.length < 8796093022208 then ((some (y1240 ++ l0 : List (S43))).bind fun y1243 => (if a1_0 = 1 then ((spec_LiveAdd.f kj2 l0 256 a1_3 a1_4).bind fun bt1246 => (some (bt1246.1, bt1246.2))) else (if a1_0 = 2 then ((spec_LiveCut.f kj2 l0 256 a1_3).bind fun bt1250 => (if bt1250.2.2 = true then (if bt1250.2.1 = a1_4 then (some (bt1250.1, true)) else (some (([] : List (S43)), false))) else (some (([] : List (S43)), false)))) else (if a1_0 = 4 then ((spec_LiveCut.f kj2 l0 256 a1_3).bind fun bt1255 => (if bt1255.2.2 = true then (some (([] : List (S43)), false)) else (some (y1243, true)))) else (some (y1243, true)))))) else (none)) = some (r1, r2) := by first | (rw [hy1240]; with_reducible exact H) | (have H2_ := (Option.bind_some _ _).symm.trans H; rw [hy1240]; with_reducible exact H2_) | (have H2_ := (Option.bind_some _ _).symm.trans H; with_reducible exact H2_) | with_reducible exact H | (rw [hy1240]; exact H) | exact H
        have Ny1240 := Aside0.mk hy1240
        clear hy1240
        by_cases c13 : y1240.length + l0.length < 8796093022208
        · rw [if_pos c13] at H
          have LMc13 := Aside0.mk c13
          clear c13
          obtain ⟨y1243, hy1243⟩ : ∃ y_ : List (S43), y_ = (y1240 ++ l0) := ⟨_, rfl⟩
          replace H : (if a1_0 = 1 then ((spec_LiveAdd.f kj2 l0 256 a1_3 a1_4).bind fun bt1246 => (some (bt1246.1, bt1246.2))) else (if a1_0 = 2 then ((spec_LiveCut.f kj2 l0 256 a1_3).bind fun bt1250 => (if bt1250.2.2 = true then (if bt1250.2.1 = a1_4 then (some (bt1250.1, true)) else (some (([] : List (S43)), false))) else (some (([] : List (S43)), false)))) else (if a1_0 = 4 then ((spec_LiveCut.f kj2 l0 256 a1_3).bind fun bt1255 => (if bt1255.2.2 = true then (some (([] : List (S43)), false)) else (some (y1243, true)))) else (some (y1243, true))))) = some (r1, r2) := by first | (rw [hy1243]; with_reducible exact H) | (have H2_ := (Option.bind_some _ _).symm.trans H; rw [hy1243]; with_reducible exact H2_) | (have H2_ := (Option.bind_some _ _).symm.trans H; with_reducible exact H2_) | with_reducible exact H | (rw [hy1243]; exact H) | exact H
          have Ny1243 := Aside0.mk hy1243
          clear hy1243
          have HU14 := Aside0.mk H
          clear H
          go_upto_if 28 with (first | ((with_reducible refine gate_dst (N := 23) rfl ?_); refine Kd.R_lit k43 _ 43 ?hg (N := 23) ?hd (xs := ([] : List (S43))) (inner := []) (ok := fun _ => True) (okp := fun _ => True) ?hr ?hp (fun _ hk => hk) trivial (Below.refl _ _) (Nat.le_refl _) (by simp) ?_; (case hd => rfl); (case hg => rfl); (case hr => first | (go_simp; done) | (go_simp; rfl)); (case hp => exact (Reps.none _ _)); intro v1241 w15 ho16 hb hg_ hnew_; clear hg_ hnew_; (first | rw [← Ny1240.out] at ho16 | (simp only [Int.reduceToNat] at ho16; rw [← Ny1240.out] at ho16)); have n0_ := Aside0.mk (Kd.R_lower ho16 (below_size (by repeat (first | (with_reducible first | exact HB.out | apply below_alloc | apply pw_below_drewN | apply below_drew1 | refine below_set ?_ GE1237.out) | exact HB.out)))); have n1_ := Aside0.mk (blk_below (g := gb1237) (o := .cells #[.int .i64 a1_0, .int .i64 a1_1, .int .i64 a1_2, .int .i64 a1_3, .int .i64 a1_4] 95 (0, 0)) (by (with_reducible repeat (first | refine blk_drewN ?_ _ | refine blk_drew ?_ | refine blk_alloc ?_ _)); exact BK1237.out) hb); have n2_ := Aside0.mk (below_step (by repeat (first | (with_reducible first | exact HB.out | apply below_alloc | apply pw_below_drewN | apply below_drew1 | refine below_set ?_ GE1237.out) | exact HB.out)) hb); clear BK1237; clear HB; have HO1242 := n0_; have BK1237 := n1_; have HB := n2_; clear n0_ n1_ n2_; clear hb ho16) | ((with_reducible refine gate_builtin (b := .append) (xs := #[.tmp 23, .tmp 24]) rfl ?_); at_builtin; refine Kd.R_append_rows k43 (w0 := w) w.heap.size rfl (.tmp 23) (.tmp 24) 32 43 (.agg #[(.int .i64 0), (.int .i64 0)]) 16 rfl Try.underlying32 info43 rfl (by decide) (by omega) v1241 y1240 l0 _ _ _ (fun _ => True) (fun _ => False) rfl rfl ?aO ?aR (fun _ _ h => h) (fun _ h => h.elim) ?aF ?aB ?aS ?aL ?_; (case aR => repeat (first | exact (Kd.C_below HR0.out HB.out) | (with_reducible refine Kd.C_alloc ?_ _) | (with_reducible refine Kd.C_drewN ?_ _) | (with_reducible refine Kd.C_drew ?_))); (case aB => exact (by repeat (first | (with_reducible first | exact HB.out | apply below_alloc | apply pw_below_drewN | apply below_drew1 | refine below_set ?_ GE1237.out) | exact HB.out))); (case aF => exact (fun _ _ => trivial)); (case aO => exact (by (with_reducible repeat (first | apply Kd.R_alloc | apply Kd.R_drewN | apply Kd.R_drew)); exact HO1242.out)); (case aS => exact (below_size (by repeat (first | (with_reducible first | exact HB.out | apply below_alloc | apply pw_below_drewN | apply below_drew1 | refine below_set ?_ GE1237.out) | exact HB.out)))); (case aL => have := LMc13.out; omega); intro v1244 w17 ho hb hg hat; rw [← Ny1243.out] at ho; have n0_ := Aside0.mk (blk_grown (g := gb1237) (o := .cells #[.int .i64 a1_0, .int .i64 a1_1, .int .i64 a1_2, .int .i64 a1_3, .int .i64 a1_4] 95 (0, 0)) (by (with_reducible repeat (first | refine blk_drewN ?_ _ | refine blk_drew ?_ | refine blk_alloc ?_ _)); exact BK1237.out) hg (Kd.R_ne HO1242.out BK1237.out (by decide))); have n1_ := Aside0.mk (hb); have n2_ := Aside0.mk (ho); clear BK1237; clear HB; clear HO1242; have BK1237 := n0_; have HB := n1_; have HO1245 := n2_; clear n0_ n1_ n2_; clear ho hb hg hat; have hcz18_0 : w17.cell? ⟨gb1237, 0, none⟩ = some (.int .i64 a1_0) := (blk_cell BK1237.out 0).trans rfl; have hcz18_1 : w17.cell? ⟨gb1237, 1, none⟩ = some (.int .i64 a1_1) := (blk_cell BK1237.out 1).trans rfl; have hcz18_2 : w17.cell? ⟨gb1237, 2, none⟩ = some (.int .i64 a1_2) := (blk_cell BK1237.out 2).trans rfl; have hcz18_3 : w17.cell? ⟨gb1237, 3, none⟩ = some (.int .i64 a1_3) := (blk_cell BK1237.out 3).trans rfl; have hcz18_4 : w17.cell? ⟨gb1237, 4, none⟩ = some (.int .i64 a1_4) := (blk_cell BK1237.out 4).trans rfl; have hfz18_0 := blk_frozen BK1237.out 0; have hfz18_1 := blk_frozen BK1237.out 1; have hfz18_2 := blk_frozen BK1237.out 2; have hfz18_3 := blk_frozen BK1237.out 3; have hfz18_4 := blk_frozen BK1237.out 4))
          (try simp only [Act.put, List.setIfInBounds_toArray, List.set_cons_zero, List.set_cons_succ])
          have H := HU14.out
          clear HU14
          by_cases c19 : a1_0 = 1
          · rw [if_pos c19] at H
            have c19b0 : (a1_0 == 1) = true := beq_iff_eq.mpr c19
            have c19b1 : (a1_0 != 1) = false := bne_eq_false_iff_eq.mpr c19
            clear c19
            (first | rw [c19b0] | (simp only [i64_w, i32_w]; rw [c19b0]) | (simp only [c19b2, Bool.not_true, Bool.not_false]) | (simp only [c19b1, Bool.not_true, Bool.not_false]) | skip)
            replace H := Option.bind_eq_some_iff.mp H
            obtain ⟨⟨t1246, t1249⟩, A200, H⟩ := H
            try dsimp only at H
            have A20 := Aside0.mk A200
            clear A200
            simp only [Option.some.injEq, Prod.mk.injEq] at H
            obtain ⟨rfl, rfl⟩ := H
            have hcz21_0 : w17.cell? ⟨gb1237, 0, none⟩ = some (.int .i64 a1_0) := (blk_cell BK1237.out 0).trans rfl
            have hcz21_1 : w17.cell? ⟨gb1237, 1, none⟩ = some (.int .i64 a1_1) := (blk_cell BK1237.out 1).trans rfl
            have hcz21_2 : w17.cell? ⟨gb1237, 2, none⟩ = some (.int .i64 a1_2) := (blk_cell BK1237.out 2).trans rfl
            have hcz21_3 : w17.cell? ⟨gb1237, 3, none⟩ = some (.int .i64 a1_3) := (blk_cell BK1237.out 3).trans rfl
            have hcz21_4 : w17.cell? ⟨gb1237, 4, none⟩ = some (.int .i64 a1_4) := (blk_cell BK1237.out 4).trans rfl
            have hfz21_0 := blk_frozen BK1237.out 0
            have hfz21_1 := blk_frozen BK1237.out 1
            have hfz21_2 := blk_frozen BK1237.out 2
            have hfz21_3 := blk_frozen BK1237.out 3
            have hfz21_4 := blk_frozen BK1237.out 4
            go_wp2_with (first | ((with_reducible refine gate_callee (f := 26) rfl ?_); refine goesL_ (some 37) rfl rfl Try.func26 (by kernel_rfl) rfl #[.slice A0 l0.length c0, .int .i64 256, .agg #[.int .i64 a1_3, .int .i64 a1_4]] rfl (by (try simp only [List.map_toArray, List.map_cons, List.map_nil]); first | done | rfl | (simp only [List.length_drop, List.length_take]; rfl)) ?_; (with_reducible refine (spec_LiveAdd.calls kj2 _ _ l0 256 a1_3 a1_4 t1246 t1249 _ ?side1 ?side2 A20.out).mono ?_); (case side1 => repeat (first | exact (Kd.C_below HR0.out HB.out) | (with_reducible refine Kd.C_alloc ?_ _) | (with_reducible refine Kd.C_drewN ?_ _) | (with_reducible refine Kd.C_drew ?_))); (case side2 => exact HC0.out); rintro e w22 ⟨v1247, rfl, ho0, hb⟩; refine ⟨_, rfl, ?_⟩; have n0_ := Aside0.mk (Kd.R_elder' (by (with_reducible repeat (first | apply Kd.R_alloc | apply Kd.R_drewN | apply Kd.R_drew)); exact HO1245.out) (Kd.R_base ho0) hb); have n1_ := Aside0.mk (Kd.R_lower (Kd.R_new' ho0 (Kd.R_lt (by (with_reducible repeat (first | apply Kd.R_alloc | apply Kd.R_drewN | apply Kd.R_drew)); exact HO1245.out))) (below_size (by repeat (first | (with_reducible first | exact HB.out | apply below_alloc | apply pw_below_drewN | apply below_drew1 | refine below_set ?_ GE1237.out) | exact HB.out)))); have n2_ := Aside0.mk (blk_below (g := gb1237) (o := .cells #[.int .i64 a1_0, .int .i64 a1_1, .int .i64 a1_2, .int .i64 a1_3, .int .i64 a1_4] 95 (0, 0)) (by (with_reducible repeat (first | refine blk_drewN ?_ _ | refine blk_drew ?_ | refine blk_alloc ?_ _)); exact BK1237.out) hb); have n3_ := Aside0.mk (below_step (by repeat (first | (with_reducible first | exact HB.out | apply below_alloc | apply pw_below_drewN | apply below_drew1 | refine below_set ?_ GE1237.out) | exact HB.out)) hb); clear HO1245; clear BK1237; clear HB; have HO1245 := n0_; have HO1248 := n1_; have BK1237 := n2_; have HB := n3_; clear n0_ n1_ n2_ n3_; (try clear hb); (try clear hb2); (try clear hk); (try clear hi); (try clear ho0)))
            go_ret2
            exact ⟨_, by first | rfl | (simp only [i64_w, i32_w] <;> rfl) | (simp [errW_none, errW_some] <;> rfl) | (simp [*, errW_none, errW_some] <;> rfl), by (with_reducible repeat (first | apply Kd.R_alloc | apply Kd.R_drewN | apply Kd.R_drew)); exact Kd.R_mono HO1248.out (fun _ hk => trivial), by repeat (first | (with_reducible first | exact HB.out | apply below_alloc | apply pw_below_drewN | apply below_drew1 | refine below_set ?_ GE1237.out) | exact HB.out)⟩
          · rw [if_neg c19] at H
            have c19b0 : (a1_0 == 1) = false := beq_eq_false_iff_ne.mpr c19
            have c19b1 : (a1_0 != 1) = true := bne_iff_ne.mpr c19
            (first | rw [c19b0] | (simp only [i64_w, i32_w]; rw [c19b0]) | (simp only [c19b2, Bool.not_true, Bool.not_false]) | (simp only [c19b1, Bool.not_true, Bool.not_false]) | skip)
            by_cases c23 : a1_0 = 2
            · rw [if_pos c23] at H
              have c23b0 : (a1_0 == 2) = true := beq_iff_eq.mpr c23
              have c23b1 : (a1_0 != 2) = false := bne_eq_false_iff_eq.mpr c23
              clear c23
              replace H := Option.bind_eq_some_iff.mp H
              obtain ⟨⟨t1250, t1251, t1252⟩, A240, H⟩ := H
              try dsimp only at H
              have A24 := Aside0.mk A240
              clear A240
              by_cases c25 : t1252 = true
              · subst c25
                rw [if_pos rfl] at H
                have HU26 := Aside0.mk H
                clear H
                have hcz27_0 : w17.cell? ⟨gb1237, 0, none⟩ = some (.int .i64 a1_0) := (blk_cell BK1237.out 0).trans rfl
                have hcz27_1 : w17.cell? ⟨gb1237, 1, none⟩ = some (.int .i64 a1_1) := (blk_cell BK1237.out 1).trans rfl
                have hcz27_2 : w17.cell? ⟨gb1237, 2, none⟩ = some (.int .i64 a1_2) := (blk_cell BK1237.out 2).trans rfl
                have hcz27_3 : w17.cell? ⟨gb1237, 3, none⟩ = some (.int .i64 a1_3) := (blk_cell BK1237.out 3).trans rfl
                have hcz27_4 : w17.cell? ⟨gb1237, 4, none⟩ = some (.int .i64 a1_4) := (blk_cell BK1237.out 4).trans rfl
                have hfz27_0 := blk_frozen BK1237.out 0
                have hfz27_1 := blk_frozen BK1237.out 1
                have hfz27_2 := blk_frozen BK1237.out 2
                have hfz27_3 := blk_frozen BK1237.out 3
                have hfz27_4 := blk_frozen BK1237.out 4
                go_upto_if 58 with (first | ((with_reducible refine gate_callee (f := 20) rfl ?_); refine goesL_ (some 47) rfl rfl Try.func20 (by kernel_rfl) rfl #[.slice A0 l0.length c0, .int .i64 256, .int .i64 a1_3] rfl (by (try simp only [List.map_toArray, List.map_cons, List.map_nil]); first | done | rfl | (simp only [List.length_drop, List.length_take]; rfl)) ?_; (with_reducible refine (spec_LiveCut.calls kj2 _ _ l0 256 a1_3 t1250 t1251 true _ ?side1 ?side2 A24.out).mono ?_); (case side1 => repeat (first | exact (Kd.C_below HR0.out HB.out) | (with_reducible refine Kd.C_alloc ?_ _) | (with_reducible refine Kd.C_drewN ?_ _) | (with_reducible refine Kd.C_drew ?_))); (case side2 => exact HC0.out); rintro e w28 ⟨v1253, rfl, ho0, hb⟩; refine ⟨_, rfl, ?_⟩; have n0_ := Aside0.mk (Kd.R_elder' (by (with_reducible repeat (first | apply Kd.R_alloc | apply Kd.R_drewN | apply Kd.R_drew)); exact HO1245.out) (Kd.R_base ho0) hb); have n1_ := Aside0.mk (Kd.R_lower (Kd.R_new' ho0 (Kd.R_lt (by (with_reducible repeat (first | apply Kd.R_alloc | apply Kd.R_drewN | apply Kd.R_drew)); exact HO1245.out))) (below_size (by repeat (first | (with_reducible first | exact HB.out | apply below_alloc | apply pw_below_drewN | apply below_drew1 | refine below_set ?_ GE1237.out) | exact HB.out)))); have n2_ := Aside0.mk (blk_below (g := gb1237) (o := .cells #[.int .i64 a1_0, .int .i64 a1_1, .int .i64 a1_2, .int .i64 a1_3, .int .i64 a1_4] 95 (0, 0)) (by (with_reducible repeat (first | refine blk_drewN ?_ _ | refine blk_drew ?_ | refine blk_alloc ?_ _)); exact BK1237.out) hb); have n3_ := Aside0.mk (below_step (by repeat (first | (with_reducible first | exact HB.out | apply below_alloc | apply pw_below_drewN | apply below_drew1 | refine below_set ?_ GE1237.out) | exact HB.out)) hb); clear HO1245; clear BK1237; clear HB; have HO1245 := n0_; have HO1254 := n1_; have BK1237 := n2_; have HB := n3_; clear n0_ n1_ n2_ n3_; (try clear hb); (try clear hb2); (try clear hk); (try clear hi); (try clear ho0); have hcz29_0 : w28.cell? ⟨gb1237, 0, none⟩ = some (.int .i64 a1_0) := (blk_cell BK1237.out 0).trans rfl; have hcz29_1 : w28.cell? ⟨gb1237, 1, none⟩ = some (.int .i64 a1_1) := (blk_cell BK1237.out 1).trans rfl; have hcz29_2 : w28.cell? ⟨gb1237, 2, none⟩ = some (.int .i64 a1_2) := (blk_cell BK1237.out 2).trans rfl; have hcz29_3 : w28.cell? ⟨gb1237, 3, none⟩ = some (.int .i64 a1_3) := (blk_cell BK1237.out 3).trans rfl; have hcz29_4 : w28.cell? ⟨gb1237, 4, none⟩ = some (.int .i64 a1_4) := (blk_cell BK1237.out 4).trans rfl; have hfz29_0 := blk_frozen BK1237.out 0; have hfz29_1 := blk_frozen BK1237.out 1; have hfz29_2 := blk_frozen BK1237.out 2; have hfz29_3 := blk_frozen BK1237.out 3; have hfz29_4 := blk_frozen BK1237.out 4))
                (try simp only [Act.put, List.setIfInBounds_toArray, List.set_cons_zero, List.set_cons_succ])
                have H := HU26.out
                clear HU26
                by_cases c30 : t1251 = a1_4
                · rw [if_pos c30] at H
                  have c30b0 : (t1251 == a1_4) = true := beq_iff_eq.mpr c30
                  have c30b1 : (t1251 != a1_4) = false := bne_eq_false_iff_eq.mpr c30
                  clear c30
                  (first | rw [c30b0] | (simp only [i64_w, i32_w]; rw [c30b0]) | (simp only [c30b2, Bool.not_true, Bool.not_false]) | (simp only [c30b1, Bool.not_true, Bool.not_false]) | skip)
                  simp only [Option.some.injEq, Prod.mk.injEq] at H
                  obtain ⟨rfl, rfl⟩ := H
                  go_wp2
                  go_ret2
                  exact ⟨_, by first | rfl | (simp only [i64_w, i32_w] <;> rfl) | (simp [errW_none, errW_some] <;> rfl) | (simp [*, errW_none, errW_some] <;> rfl), by (with_reducible repeat (first | apply Kd.R_alloc | apply Kd.R_drewN | apply Kd.R_drew)); exact Kd.R_mono HO1254.out (fun _ hk => trivial), by repeat (first | (with_reducible first | exact HB.out | apply below_alloc | apply pw_below_drewN | apply below_drew1 | refine below_set ?_ GE1237.out) | exact HB.out)⟩
                · rw [if_neg c30] at H
                  have c30b0 : (t1251 == a1_4) = false := beq_eq_false_iff_ne.mpr c30
                  have c30b1 : (t1251 != a1_4) = true := bne_iff_ne.mpr c30
                  (first | rw [c30b0] | (simp only [i64_w, i32_w]; rw [c30b0]) | (simp only [c30b2, Bool.not_true, Bool.not_false]) | (simp only [c30b1, Bool.not_true, Bool.not_false]) | skip)
                  simp only [Option.some.injEq, Prod.mk.injEq] at H
                  obtain ⟨rfl, rfl⟩ := H
                  go_wp2
                  go_ret2
                  exact ⟨_, by first | rfl | (simp only [i64_w, i32_w] <;> rfl) | (simp [errW_none, errW_some] <;> rfl) | (simp [*, errW_none, errW_some] <;> rfl), by first | exact Kd.R_nil _ _ _ _ _ | exact Kd.N_nil _ _ _ _ _ | exact Kd.V_nil _ _ _ _ _ | exact Kd.Q_nil _ _ _ _ _ | exact Kd.S_nil _ _ _ _ _, by repeat (first | (with_reducible first | exact HB.out | apply below_alloc | apply pw_below_drewN | apply below_drew1 | refine below_set ?_ GE1237.out) | exact HB.out)⟩
              · replace c25 := Bool.eq_false_iff.mpr c25
                subst c25
                rw [if_neg (show ¬ (false = true) by decide)] at H
                simp only [Option.some.injEq, Prod.mk.injEq] at H
                obtain ⟨rfl, rfl⟩ := H
                have hcz31_0 : w17.cell? ⟨gb1237, 0, none⟩ = some (.int .i64 a1_0) := (blk_cell BK1237.out 0).trans rfl
                have hcz31_1 : w17.cell? ⟨gb1237, 1, none⟩ = some (.int .i64 a1_1) := (blk_cell BK1237.out 1).trans rfl
                have hcz31_2 : w17.cell? ⟨gb1237, 2, none⟩ = some (.int .i64 a1_2) := (blk_cell BK1237.out 2).trans rfl
                have hcz31_3 : w17.cell? ⟨gb1237, 3, none⟩ = some (.int .i64 a1_3) := (blk_cell BK1237.out 3).trans rfl
                have hcz31_4 : w17.cell? ⟨gb1237, 4, none⟩ = some (.int .i64 a1_4) := (blk_cell BK1237.out 4).trans rfl
                have hfz31_0 := blk_frozen BK1237.out 0
                have hfz31_1 := blk_frozen BK1237.out 1
                have hfz31_2 := blk_frozen BK1237.out 2
                have hfz31_3 := blk_frozen BK1237.out 3
                have hfz31_4 := blk_frozen BK1237.out 4
                go_wp2_with (first | ((with_reducible refine gate_callee (f := 20) rfl ?_); refine goesL_ (some 47) rfl rfl Try.func20 (by kernel_rfl) rfl #[.slice A0 l0.length c0, .int .i64 256, .int .i64 a1_3] rfl (by (try simp only [List.map_toArray, List.map_cons, List.map_nil]); first | done | rfl | (simp only [List.length_drop, List.length_take]; rfl)) ?_; (with_reducible refine (spec_LiveCut.calls kj2 _ _ l0 256 a1_3 t1250 t1251 false _ ?side1 ?side2 A24.out).mono ?_); (case side1 => repeat (first | exact (Kd.C_below HR0.out HB.out) | (with_reducible refine Kd.C_alloc ?_ _) | (with_reducible refine Kd.C_drewN ?_ _) | (with_reducible refine Kd.C_drew ?_))); (case side2 => exact HC0.out); rintro e w32 ⟨v1253, rfl, ho0, hb⟩; refine ⟨_, rfl, ?_⟩; have n0_ := Aside0.mk (Kd.R_elder' (by (with_reducible repeat (first | apply Kd.R_alloc | apply Kd.R_drewN | apply Kd.R_drew)); exact HO1245.out) (Kd.R_base ho0) hb); have n1_ := Aside0.mk (Kd.R_lower (Kd.R_new' ho0 (Kd.R_lt (by (with_reducible repeat (first | apply Kd.R_alloc | apply Kd.R_drewN | apply Kd.R_drew)); exact HO1245.out))) (below_size (by repeat (first | (with_reducible first | exact HB.out | apply below_alloc | apply pw_below_drewN | apply below_drew1 | refine below_set ?_ GE1237.out) | exact HB.out)))); have n2_ := Aside0.mk (blk_below (g := gb1237) (o := .cells #[.int .i64 a1_0, .int .i64 a1_1, .int .i64 a1_2, .int .i64 a1_3, .int .i64 a1_4] 95 (0, 0)) (by (with_reducible repeat (first | refine blk_drewN ?_ _ | refine blk_drew ?_ | refine blk_alloc ?_ _)); exact BK1237.out) hb); have n3_ := Aside0.mk (below_step (by repeat (first | (with_reducible first | exact HB.out | apply below_alloc | apply pw_below_drewN | apply below_drew1 | refine below_set ?_ GE1237.out) | exact HB.out)) hb); clear HO1245; clear BK1237; clear HB; have HO1245 := n0_; have HO1254 := n1_; have BK1237 := n2_; have HB := n3_; clear n0_ n1_ n2_ n3_; (try clear hb); (try clear hb2); (try clear hk); (try clear hi); (try clear ho0)))
                go_ret2
                exact ⟨_, by first | rfl | (simp only [i64_w, i32_w] <;> rfl) | (simp [errW_none, errW_some] <;> rfl) | (simp [*, errW_none, errW_some] <;> rfl), by first | exact Kd.R_nil _ _ _ _ _ | exact Kd.N_nil _ _ _ _ _ | exact Kd.V_nil _ _ _ _ _ | exact Kd.Q_nil _ _ _ _ _ | exact Kd.S_nil _ _ _ _ _, by repeat (first | (with_reducible first | exact HB.out | apply below_alloc | apply pw_below_drewN | apply below_drew1 | refine below_set ?_ GE1237.out) | exact HB.out)⟩
            · rw [if_neg c23] at H
              have c23b0 : (a1_0 == 2) = false := beq_eq_false_iff_ne.mpr c23
              have c23b1 : (a1_0 != 2) = true := bne_iff_ne.mpr c23
              by_cases c33 : a1_0 = 4
              · rw [if_pos c33] at H
                have c33b0 : (a1_0 == 4) = true := beq_iff_eq.mpr c33
                have c33b1 : (a1_0 != 4) = false := bne_eq_false_iff_eq.mpr c33
                clear c33
                replace H := Option.bind_eq_some_iff.mp H
                obtain ⟨⟨t1255, t1256, t1257⟩, A340, H⟩ := H
                try dsimp only at H
                have A34 := Aside0.mk A340
                clear A340
                have HU35 := Aside0.mk H
                clear H
                have hcz36_0 : w17.cell? ⟨gb1237, 0, none⟩ = some (.int .i64 a1_0) := (blk_cell BK1237.out 0).trans rfl
                have hcz36_1 : w17.cell? ⟨gb1237, 1, none⟩ = some (.int .i64 a1_1) := (blk_cell BK1237.out 1).trans rfl
                have hcz36_2 : w17.cell? ⟨gb1237, 2, none⟩ = some (.int .i64 a1_2) := (blk_cell BK1237.out 2).trans rfl
                have hcz36_3 : w17.cell? ⟨gb1237, 3, none⟩ = some (.int .i64 a1_3) := (blk_cell BK1237.out 3).trans rfl
                have hcz36_4 : w17.cell? ⟨gb1237, 4, none⟩ = some (.int .i64 a1_4) := (blk_cell BK1237.out 4).trans rfl
                have hfz36_0 := blk_frozen BK1237.out 0
                have hfz36_1 := blk_frozen BK1237.out 1
                have hfz36_2 := blk_frozen BK1237.out 2
                have hfz36_3 := blk_frozen BK1237.out 3
                have hfz36_4 := blk_frozen BK1237.out 4
                go_upto_if 71 with (first | ((with_reducible refine gate_callee (f := 20) rfl ?_); refine goesL_ (some 67) rfl rfl Try.func20 (by kernel_rfl) rfl #[.slice A0 l0.length c0, .int .i64 256, .int .i64 a1_3] rfl (by (try simp only [List.map_toArray, List.map_cons, List.map_nil]); first | done | rfl | (simp only [List.length_drop, List.length_take]; rfl)) ?_; (with_reducible refine (spec_LiveCut.calls kj2 _ _ l0 256 a1_3 t1255 t1256 t1257 _ ?side1 ?side2 A34.out).mono ?_); (case side1 => repeat (first | exact (Kd.C_below HR0.out HB.out) | (with_reducible refine Kd.C_alloc ?_ _) | (with_reducible refine Kd.C_drewN ?_ _) | (with_reducible refine Kd.C_drew ?_))); (case side2 => exact HC0.out); rintro e w37 ⟨v1258, rfl, ho0, hb⟩; refine ⟨_, rfl, ?_⟩; have n0_ := Aside0.mk (Kd.R_elder' (by (with_reducible repeat (first | apply Kd.R_alloc | apply Kd.R_drewN | apply Kd.R_drew)); exact HO1245.out) (Kd.R_base ho0) hb); have n1_ := Aside0.mk (Kd.R_lower (Kd.R_new' ho0 (Kd.R_lt (by (with_reducible repeat (first | apply Kd.R_alloc | apply Kd.R_drewN | apply Kd.R_drew)); exact HO1245.out))) (below_size (by repeat (first | (with_reducible first | exact HB.out | apply below_alloc | apply pw_below_drewN | apply below_drew1 | refine below_set ?_ GE1237.out) | exact HB.out)))); have n2_ := Aside0.mk (blk_below (g := gb1237) (o := .cells #[.int .i64 a1_0, .int .i64 a1_1, .int .i64 a1_2, .int .i64 a1_3, .int .i64 a1_4] 95 (0, 0)) (by (with_reducible repeat (first | refine blk_drewN ?_ _ | refine blk_drew ?_ | refine blk_alloc ?_ _)); exact BK1237.out) hb); have n3_ := Aside0.mk (below_step (by repeat (first | (with_reducible first | exact HB.out | apply below_alloc | apply pw_below_drewN | apply below_drew1 | refine below_set ?_ GE1237.out) | exact HB.out)) hb); clear HO1245; clear BK1237; clear HB; have HO1245 := n0_; have HO1259 := n1_; have BK1237 := n2_; have HB := n3_; clear n0_ n1_ n2_ n3_; (try clear hb); (try clear hb2); (try clear hk); (try clear hi); (try clear ho0)))
                (try simp only [Act.put, List.setIfInBounds_toArray, List.set_cons_zero, List.set_cons_succ])
                have H := HU35.out
                clear HU35
                by_cases c38 : t1257 = true
                · subst c38
                  (try simp only [Bool.not_true, Bool.not_false])
                  rw [if_pos rfl] at H
                  simp only [Option.some.injEq, Prod.mk.injEq] at H
                  obtain ⟨rfl, rfl⟩ := H
                  go_wp2
                  go_ret2
                  exact ⟨_, by first | rfl | (simp only [i64_w, i32_w] <;> rfl) | (simp [errW_none, errW_some] <;> rfl) | (simp [*, errW_none, errW_some] <;> rfl), by first | exact Kd.R_nil _ _ _ _ _ | exact Kd.N_nil _ _ _ _ _ | exact Kd.V_nil _ _ _ _ _ | exact Kd.Q_nil _ _ _ _ _ | exact Kd.S_nil _ _ _ _ _, by repeat (first | (with_reducible first | exact HB.out | apply below_alloc | apply pw_below_drewN | apply below_drew1 | refine below_set ?_ GE1237.out) | exact HB.out)⟩
                · replace c38 := Bool.eq_false_iff.mpr c38
                  subst c38
                  (try simp only [Bool.not_true, Bool.not_false])
                  rw [if_neg (show ¬ (false = true) by decide)] at H
                  simp only [Option.some.injEq, Prod.mk.injEq] at H
                  obtain ⟨rfl, rfl⟩ := H
                  go_wp2
                  go_ret2
                  exact ⟨_, by first | rfl | (simp only [i64_w, i32_w] <;> rfl) | (simp [errW_none, errW_some] <;> rfl) | (simp [*, errW_none, errW_some] <;> rfl), by (with_reducible repeat (first | apply Kd.R_alloc | apply Kd.R_drewN | apply Kd.R_drew)); exact Kd.R_mono HO1245.out (fun _ hk => trivial), by repeat (first | (with_reducible first | exact HB.out | apply below_alloc | apply pw_below_drewN | apply below_drew1 | refine below_set ?_ GE1237.out) | exact HB.out)⟩
              · rw [if_neg c33] at H
                have c33b0 : (a1_0 == 4) = false := beq_eq_false_iff_ne.mpr c33
                have c33b1 : (a1_0 != 4) = true := bne_iff_ne.mpr c33
                simp only [Option.some.injEq, Prod.mk.injEq] at H
                obtain ⟨rfl, rfl⟩ := H
                go_wp2
                go_ret2
                exact ⟨_, by first | rfl | (simp only [i64_w, i32_w] <;> rfl) | (simp [errW_none, errW_some] <;> rfl) | (simp [*, errW_none, errW_some] <;> rfl), by (with_reducible repeat (first | apply Kd.R_alloc | apply Kd.R_drewN | apply Kd.R_drew)); exact HO1245.out, by repeat (first | (with_reducible first | exact HB.out | apply below_alloc | apply pw_below_drewN | apply below_drew1 | refine below_set ?_ GE1237.out) | exact HB.out)⟩
        · rw [if_neg c13] at H
          exact absurd H (by simp)

/-! ### laws_toFact: function 66 -/
def laws_toFact.f (a0_0 : Int) (a0_1 : Int) (a0_2 : Int) (a0_3 : Int) (a0_4 : Int) : Option (Int × Int × Int × Int × Int) := some (a0_0, a0_1, a0_2, a0_3, a0_4)
set_option maxHeartbeats 8000000 in
set_option maxRecDepth 100000 in
theorem laws_toFact.calls (a0_0 : Int) (a0_1 : Int) (a0_2 : Int) (a0_3 : Int) (a0_4 : Int) (r1 : Int) (r2 : Int) (r3 : Int) (r4 : Int) (r5 : Int) (w : World) (h : laws_toFact.f a0_0 a0_1 a0_2 a0_3 a0_4 = some (r1, r2, r3, r4, r5)) :
    Calls Try.prog 66 #[.agg #[.int .i64 a0_0, .int .i64 a0_1, .int .i64 a0_2, .int .i64 a0_3, .int .i64 a0_4]] w fun e w' => e = .returned (.agg #[.int .i64 r1, .int .i64 r2, .int .i64 r3, .int .i64 r4, .int .i64 r5]) ∧ Below w.heap.size w w' := by
  have hu93 := Try.underlying93
  have hu95 := Try.underlying95
  have HB := Aside0.mk (Below.refl w.heap.size w)
  unfold laws_toFact.f at h
  have H := h
  clear h
  simp only [Option.some.injEq, Prod.mk.injEq] at H
  obtain ⟨rfl, rfl, rfl, rfl, rfl⟩ := H
  go_enter Try.func66, Try.ntmps66
  go_wp2_with (first | ((with_reducible refine gate_dst (N := 1) rfl ?_); refine box_event ?hg (N := 1) ?hd (cs := #[.int .i64 a0_0, .int .i64 a0_1, .int .i64 a0_2, .int .i64 a0_3, .int .i64 a0_4]) (t := 93) ?hr ?_; (case hd => rfl); (case hg => rfl); (case hr => first | (go_simp; done) | (go_simp; rfl)); intro gb1260 hg w2 hbox hb; have n0_ := Aside0.mk (below_step (by repeat (first | (with_reducible first | exact HB.out | apply below_alloc | apply pw_below_drewN | apply below_drew1) | exact HB.out)) hb); have n1_ := Aside0.mk (hbox); have n2_ := Aside0.mk ((by rw [hg]; exact (below_size (by repeat (first | (with_reducible first | exact HB.out | apply below_alloc | apply pw_below_drewN | apply below_drew1) | exact HB.out))) : w.heap.size ≤ gb1260)); have n3_ := Aside0.mk ((by rw [hg]; exact (below_size (by repeat (first | (with_reducible first | exact HB.out | apply below_alloc | apply pw_below_drewN | apply below_drew1) | exact HB.out))) : w.heap.size ≤ gb1260)); clear HB; have HB := n0_; have BK1260 := n1_; have GW1260 := n2_; have GE1260 := n3_; clear n0_ n1_ n2_ n3_; clear hb hbox hg) | ((with_reducible refine gate_dst (N := 2) rfl ?_); refine box_event ?hg (N := 2) ?hd (cs := #[.int .i64 0, .int .i64 0, .int .i64 0, .int .i64 0, .int .i64 0]) (t := 95) ?hr ?_; (case hd => rfl); (case hg => rfl); (case hr => first | (go_simp; done) | (go_simp; rfl)); intro gb1261 hg w3 hbox hb; have n0_ := Aside0.mk (blk_below (g := gb1260) (o := .cells #[.int .i64 a0_0, .int .i64 a0_1, .int .i64 a0_2, .int .i64 a0_3, .int .i64 a0_4] 93 (0, 0)) (by (with_reducible repeat (first | refine blk_drewN ?_ _ | refine blk_drew ?_ | refine blk_alloc ?_ _)); exact BK1260.out) hb); have n1_ := Aside0.mk (below_step (by repeat (first | (with_reducible first | exact HB.out | apply below_alloc | apply pw_below_drewN | apply below_drew1 | refine below_set ?_ GE1260.out) | exact HB.out)) hb); have n2_ := Aside0.mk (hbox); have n3_ := Aside0.mk ((by rw [hg]; exact (below_size (by repeat (first | (with_reducible first | exact HB.out | apply below_alloc | apply pw_below_drewN | apply below_drew1 | refine below_set ?_ GE1260.out) | exact HB.out))) : w.heap.size ≤ gb1261)); have n4_ := Aside0.mk ((by rw [hg]; exact (below_size (by repeat (first | (with_reducible first | exact HB.out | apply below_alloc | apply pw_below_drewN | apply below_drew1 | refine below_set ?_ GE1260.out) | exact HB.out))) : w.heap.size ≤ gb1261)); have n5_ := Aside0.mk ((by rw [hg]; exact Nat.ne_of_lt (blk_lt (g := gb1260) (o := .cells #[.int .i64 a0_0, .int .i64 a0_1, .int .i64 a0_2, .int .i64 a0_3, .int .i64 a0_4] 93 (0, 0)) (by (with_reducible repeat (first | refine blk_drewN ?_ _ | refine blk_drew ?_ | refine blk_alloc ?_ _)); exact BK1260.out)) : gb1260 ≠ gb1261)); have n6_ := Aside0.mk ((by rw [hg]; exact Nat.ne_of_gt (blk_lt (g := gb1260) (o := .cells #[.int .i64 a0_0, .int .i64 a0_1, .int .i64 a0_2, .int .i64 a0_3, .int .i64 a0_4] 93 (0, 0)) (by (with_reducible repeat (first | refine blk_drewN ?_ _ | refine blk_drew ?_ | refine blk_alloc ?_ _)); exact BK1260.out)) : gb1261 ≠ gb1260)); clear BK1260; clear HB; have BK1260 := n0_; have HB := n1_; have BK1261 := n2_; have GW1261 := n3_; have GE1261 := n4_; have NB1260_1261 := n5_; have NB1261_1260 := n6_; clear n0_ n1_ n2_ n3_ n4_ n5_ n6_; clear hb hbox hg) | ((with_reducible refine gate_dst (N := 3) rfl ?_); refine box_event ?hg (N := 3) ?hd (cs := #[.int .i64 0, .int .i64 0, .int .i64 0, .int .i64 0, .int .i64 0]) (t := 95) ?hr ?_; (case hd => rfl); (case hg => rfl); (case hr => first | (go_simp; done) | (go_simp; rfl)); intro gb1262 hg w4 hbox hb; have n0_ := Aside0.mk (blk_below (g := gb1260) (o := .cells #[.int .i64 a0_0, .int .i64 a0_1, .int .i64 a0_2, .int .i64 a0_3, .int .i64 a0_4] 93 (0, 0)) (by (with_reducible repeat (first | refine blk_drewN ?_ _ | refine blk_drew ?_ | refine blk_alloc ?_ _)); exact BK1260.out) hb); have n1_ := Aside0.mk (blk_below (g := gb1261) (o := .cells #[.int .i64 0, .int .i64 0, .int .i64 0, .int .i64 0, .int .i64 0] 95 (0, 0)) (by (with_reducible repeat (first | refine blk_drewN ?_ _ | refine blk_drew ?_ | refine blk_alloc ?_ _)); exact BK1261.out) hb); have n2_ := Aside0.mk (below_step (by repeat (first | (with_reducible first | exact HB.out | apply below_alloc | apply pw_below_drewN | apply below_drew1 | refine below_set ?_ GE1260.out | refine below_set ?_ GE1261.out) | exact HB.out)) hb); have n3_ := Aside0.mk (hbox); have n4_ := Aside0.mk ((by rw [hg]; exact (below_size (by repeat (first | (with_reducible first | exact HB.out | apply below_alloc | apply pw_below_drewN | apply below_drew1 | refine below_set ?_ GE1260.out | refine below_set ?_ GE1261.out) | exact HB.out))) : w.heap.size ≤ gb1262)); have n5_ := Aside0.mk ((by rw [hg]; exact (below_size (by repeat (first | (with_reducible first | exact HB.out | apply below_alloc | apply pw_below_drewN | apply below_drew1 | refine below_set ?_ GE1260.out | refine below_set ?_ GE1261.out) | exact HB.out))) : w.heap.size ≤ gb1262)); have n6_ := Aside0.mk ((by rw [hg]; exact Nat.ne_of_lt (blk_lt (g := gb1260) (o := .cells #[.int .i64 a0_0, .int .i64 a0_1, .int .i64 a0_2, .int .i64 a0_3, .int .i64 a0_4] 93 (0, 0)) (by (with_reducible repeat (first | refine blk_drewN ?_ _ | refine blk_drew ?_ | refine blk_alloc ?_ _)); exact BK1260.out)) : gb1260 ≠ gb1262)); have n7_ := Aside0.mk ((by rw [hg]; exact Nat.ne_of_gt (blk_lt (g := gb1260) (o := .cells #[.int .i64 a0_0, .int .i64 a0_1, .int .i64 a0_2, .int .i64 a0_3, .int .i64 a0_4] 93 (0, 0)) (by (with_reducible repeat (first | refine blk_drewN ?_ _ | refine blk_drew ?_ | refine blk_alloc ?_ _)); exact BK1260.out)) : gb1262 ≠ gb1260)); have n8_ := Aside0.mk ((by rw [hg]; exact Nat.ne_of_lt (blk_lt (g := gb1261) (o := .cells #[.int .i64 0, .int .i64 0, .int .i64 0, .int .i64 0, .int .i64 0] 95 (0, 0)) (by (with_reducible repeat (first | refine blk_drewN ?_ _ | refine blk_drew ?_ | refine blk_alloc ?_ _)); exact BK1261.out)) : gb1261 ≠ gb1262)); have n9_ := Aside0.mk ((by rw [hg]; exact Nat.ne_of_gt (blk_lt (g := gb1261) (o := .cells #[.int .i64 0, .int .i64 0, .int .i64 0, .int .i64 0, .int .i64 0] 95 (0, 0)) (by (with_reducible repeat (first | refine blk_drewN ?_ _ | refine blk_drew ?_ | refine blk_alloc ?_ _)); exact BK1261.out)) : gb1262 ≠ gb1261)); clear BK1260; clear BK1261; clear HB; have BK1260 := n0_; have BK1261 := n1_; have HB := n2_; have BK1262 := n3_; have GW1262 := n4_; have GE1262 := n5_; have NB1260_1262 := n6_; have NB1262_1260 := n7_; have NB1261_1262 := n8_; have NB1262_1261 := n9_; clear n0_ n1_ n2_ n3_ n4_ n5_ n6_ n7_ n8_ n9_; clear hb hbox hg; have hnb5 := NB1260_1261.out; have hnc5 := NB1261_1260.out; have hnb6 := NB1260_1262.out; have hnc6 := NB1262_1260.out; have hcz7_0 : w4.cell? ⟨gb1260, 0, none⟩ = some (.int .i64 a0_0) := (blk_cell BK1260.out 0).trans rfl; have hcz7_1 : w4.cell? ⟨gb1260, 1, none⟩ = some (.int .i64 a0_1) := (blk_cell BK1260.out 1).trans rfl; have hcz7_2 : w4.cell? ⟨gb1260, 2, none⟩ = some (.int .i64 a0_2) := (blk_cell BK1260.out 2).trans rfl; have hcz7_3 : w4.cell? ⟨gb1260, 3, none⟩ = some (.int .i64 a0_3) := (blk_cell BK1260.out 3).trans rfl; have hcz7_4 : w4.cell? ⟨gb1260, 4, none⟩ = some (.int .i64 a0_4) := (blk_cell BK1260.out 4).trans rfl; have hfz7_0 := blk_frozen BK1260.out 0; have hfz7_1 := blk_frozen BK1260.out 1; have hfz7_2 := blk_frozen BK1260.out 2; have hfz7_3 := blk_frozen BK1260.out 3; have hfz7_4 := blk_frozen BK1260.out 4; have hnb8 := NB1262_1261.out; have hnc8 := NB1261_1262.out; have hcz9_0 : w4.cell? ⟨gb1262, 0, none⟩ = some (.int .i64 0) := (blk_cell BK1262.out 0).trans rfl; have hcz9_1 : w4.cell? ⟨gb1262, 1, none⟩ = some (.int .i64 0) := (blk_cell BK1262.out 1).trans rfl; have hcz9_2 : w4.cell? ⟨gb1262, 2, none⟩ = some (.int .i64 0) := (blk_cell BK1262.out 2).trans rfl; have hcz9_3 : w4.cell? ⟨gb1262, 3, none⟩ = some (.int .i64 0) := (blk_cell BK1262.out 3).trans rfl; have hcz9_4 : w4.cell? ⟨gb1262, 4, none⟩ = some (.int .i64 0) := (blk_cell BK1262.out 4).trans rfl; have hfz9_0 := blk_frozen BK1262.out 0; have hfz9_1 := blk_frozen BK1262.out 1; have hfz9_2 := blk_frozen BK1262.out 2; have hfz9_3 := blk_frozen BK1262.out 3; have hfz9_4 := blk_frozen BK1262.out 4; have hcz10_0 : w4.cell? ⟨gb1261, 0, none⟩ = some (.int .i64 0) := (blk_cell BK1261.out 0).trans rfl; have hcz10_1 : w4.cell? ⟨gb1261, 1, none⟩ = some (.int .i64 0) := (blk_cell BK1261.out 1).trans rfl; have hcz10_2 : w4.cell? ⟨gb1261, 2, none⟩ = some (.int .i64 0) := (blk_cell BK1261.out 2).trans rfl; have hcz10_3 : w4.cell? ⟨gb1261, 3, none⟩ = some (.int .i64 0) := (blk_cell BK1261.out 3).trans rfl; have hcz10_4 : w4.cell? ⟨gb1261, 4, none⟩ = some (.int .i64 0) := (blk_cell BK1261.out 4).trans rfl; have hfz10_0 := blk_frozen BK1261.out 0; have hfz10_1 := blk_frozen BK1261.out 1; have hfz10_2 := blk_frozen BK1261.out 2; have hfz10_3 := blk_frozen BK1261.out 3; have hfz10_4 := blk_frozen BK1261.out 4))
  refine bodyPost_ret (results_cell_row rfl _ _ gb1261 95 #[.int .i64 a0_0, .int .i64 a0_1, .int .i64 a0_2, .int .i64 a0_3, .int .i64 a0_4] (0, 0) _ rfl (by (with_reducible repeat (first | refine blk_drewN ?_ _ | refine blk_drew ?_ | refine blk_alloc ?_ _)); refine blk_put (cs := #[.int .i64 a0_0, .int .i64 a0_1, .int .i64 a0_2, .int .i64 a0_3, .int .i64 0]) ?_ 4 _ rfl; (with_reducible repeat (first | refine blk_drewN ?_ _ | refine blk_drew ?_ | refine blk_alloc ?_ _)); refine blk_put (cs := #[.int .i64 a0_0, .int .i64 a0_1, .int .i64 a0_2, .int .i64 0, .int .i64 0]) ?_ 3 _ rfl; (with_reducible repeat (first | refine blk_drewN ?_ _ | refine blk_drew ?_ | refine blk_alloc ?_ _)); refine blk_put (cs := #[.int .i64 a0_0, .int .i64 a0_1, .int .i64 0, .int .i64 0, .int .i64 0]) ?_ 2 _ rfl; (with_reducible repeat (first | refine blk_drewN ?_ _ | refine blk_drew ?_ | refine blk_alloc ?_ _)); refine blk_put (cs := #[.int .i64 a0_0, .int .i64 0, .int .i64 0, .int .i64 0, .int .i64 0]) ?_ 1 _ rfl; (with_reducible repeat (first | refine blk_drewN ?_ _ | refine blk_drew ?_ | refine blk_alloc ?_ _)); refine blk_put (cs := #[.int .i64 0, .int .i64 0, .int .i64 0, .int .i64 0, .int .i64 0]) ?_ 0 _ rfl; (with_reducible repeat (first | refine blk_drewN ?_ _ | refine blk_drew ?_ | refine blk_alloc ?_ _)); refine blk_far ?_ NB1261_1262.out _; (with_reducible repeat (first | refine blk_drewN ?_ _ | refine blk_drew ?_ | refine blk_alloc ?_ _)); refine blk_far ?_ NB1261_1262.out _; (with_reducible repeat (first | refine blk_drewN ?_ _ | refine blk_drew ?_ | refine blk_alloc ?_ _)); refine blk_far ?_ NB1261_1262.out _; (with_reducible repeat (first | refine blk_drewN ?_ _ | refine blk_drew ?_ | refine blk_alloc ?_ _)); refine blk_far ?_ NB1261_1262.out _; (with_reducible repeat (first | refine blk_drewN ?_ _ | refine blk_drew ?_ | refine blk_alloc ?_ _)); refine blk_far ?_ NB1261_1262.out _; (with_reducible repeat (first | refine blk_drewN ?_ _ | refine blk_drew ?_ | refine blk_alloc ?_ _)); exact BK1261.out) Try.underlying95 rfl (by kernel_rfl)) rfl ?_
  exact ⟨by first | rfl | (simp only [i64_w, i32_w] <;> rfl) | (simp [errW_none, errW_some] <;> rfl) | (simp [*, errW_none, errW_some] <;> rfl), by repeat (first | (with_reducible first | exact HB.out | apply below_alloc | apply pw_below_drewN | apply below_drew1 | refine below_set ?_ GE1260.out | refine below_set ?_ GE1261.out | refine below_set ?_ GE1262.out) | exact HB.out)⟩

end Go.Proofs.Ytmnjppfebaeoiaa.PB1
