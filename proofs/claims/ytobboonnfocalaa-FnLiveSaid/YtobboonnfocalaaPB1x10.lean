/- What functions of the program compute, each as a Lean function, and that the run comes to just that. Conditions: none. (Laid by this session's own program.) -/
import Derived.Test.YtobboonnfocalaaT
import Derived.Test.YtobboonnfocalaaT2
import Derived.Test.YtobboonnfocalaaPB1x0
import Derived.Test.YtobboonnfocalaaPB1x8
import Derived.Test.YtobboonnfocalaaPB1x9
namespace Go.Proofs.Ytobboonnfocalaa.PB1
open Go.RowKit Go.Proofs.YtobboonnfocalaaW.PrintWords Go.Proofs.YtobboonnfocalaaW.PrintLast Go.Proofs.YtobboonnfocalaaW.PrintMore Go.Proofs.Ytobboonnfocalaa.T
attribute [local go_sem] max2_int min2_int max_two min_two max_three min_three max_four min_four   -- for this text's walks alone
set_option linter.unusedVariables false
set_option linter.unusedSimpArgs false

/-! ### spec_LiveFree: function 34 -/
mutual
def spec_LiveFree.l0 : Nat → List (S37) → Int → List (S37) → Int → Int → Option ((List (S37)))
  | 0, _, _, _, _, _ => none
  | k + 1, x0, x1, x5, x6, x7 => (spec_LiveOk.f k x0 x1).bind fun t310 => (if t310 = true then (spec_LiveFree.j1 k x0 x1 x5 x6 x7 (decide (x7 ≤ (x0.length : Int)))) else (spec_LiveFree.j1 k x0 x1 x5 x6 x7 false))
def spec_LiveFree.j1 : Nat → List (S37) → Int → List (S37) → Int → Int → Bool → Option ((List (S37)))
  | 0, _, _, _, _, _, _ => none
  | k + 1, x0, x1, x5, x6, x7, x18 => if x18 = true then (if x7 < (x0.length : Int) then (if 0 ≤ x7 then (spec_LiveFree.j2 k x0 x1 x5 x6 x7 ((rd_T37 x0 x7).f0)) else (none)) else (spec_LiveFree.j2 k x0 x1 x5 x6 x7 x1)) else (some x5)
def spec_LiveFree.j2 : Nat → List (S37) → Int → List (S37) → Int → Int → Int → Option ((List (S37)))
  | 0, _, _, _, _, _, _ => none
  | k + 1, x0, x1, x5, x6, x7, x8 => if x8 > x6 then (if x5.length < 8796093022208 then ((some (x5 ++ [(⟨x6, wrap64 (x8 - x6)⟩ : S37)] : List (S37))).bind fun y312 => (if x7 < (x0.length : Int) then (if 0 ≤ x7 then (spec_LiveFree.l0 k x0 x1 y312 (wrap64 (((rd_T37 x0 x7).f0) + ((rd_T37 x0 x7).f1))) (wrap64 (x7 + 1))) else (none)) else (spec_LiveFree.l0 k x0 x1 y312 x6 (wrap64 (x7 + 1))))) else (none)) else (if x7 < (x0.length : Int) then (if 0 ≤ x7 then (spec_LiveFree.l0 k x0 x1 x5 (wrap64 (((rd_T37 x0 x7).f0) + ((rd_T37 x0 x7).f1))) (wrap64 (x7 + 1))) else (none)) else (spec_LiveFree.l0 k x0 x1 x5 x6 (wrap64 (x7 + 1))))
end
def spec_LiveFree.f (k : Nat) (l0 : List (S37)) (a1 : Int) : Option ((List (S37))) := spec_LiveFree.l0 k l0 a1 (([] : List (S37))) 0 0
theorem spec_LiveFree.mono_l : ∀ k, (∀ y0 y1 y2 y3 y4, LeO (spec_LiveFree.l0 k y0 y1 y2 y3 y4) (spec_LiveFree.l0 (k + 1) y0 y1 y2 y3 y4)) ∧ (∀ y0 y1 y2 y3 y4 y5, LeO (spec_LiveFree.j1 k y0 y1 y2 y3 y4 y5) (spec_LiveFree.j1 (k + 1) y0 y1 y2 y3 y4 y5)) ∧ (∀ y0 y1 y2 y3 y4 y5, LeO (spec_LiveFree.j2 k y0 y1 y2 y3 y4 y5) (spec_LiveFree.j2 (k + 1) y0 y1 y2 y3 y4 y5))
  | 0 => ⟨fun _ _ _ _ _ r h => by simp [spec_LiveFree.l0] at h, fun _ _ _ _ _ _ r h => by simp [spec_LiveFree.j1] at h, fun _ _ _ _ _ _ r h => by simp [spec_LiveFree.j2] at h⟩
  | k + 1 => by
    obtain ⟨ih0, ih1, ih2⟩ := spec_LiveFree.mono_l k
    refine ⟨?_, ?_, ?_⟩
    · intro y0 y1 y2 y3 y4
      unfold spec_LiveFree.l0
      repeat' first
        | (with_reducible first | exact ih0 .. | exact ih1 .. | exact ih2 .. | exact spec_LiveOk.mono .. | exact LeO.refl _ | exact LeO.none _ | refine LeO.ite ?_ ?_ | refine LeO.bind ?_ (fun _ => ?_))
        | exact LeO.none _ | refine LeO.ite ?_ ?_ | refine LeO.bind ?_ (fun _ => ?_)
    · intro y0 y1 y2 y3 y4 y5
      unfold spec_LiveFree.j1
      repeat' first
        | (with_reducible first | exact ih0 .. | exact ih1 .. | exact ih2 .. | exact spec_LiveOk.mono .. | exact LeO.refl _ | exact LeO.none _ | refine LeO.ite ?_ ?_ | refine LeO.bind ?_ (fun _ => ?_))
        | exact LeO.none _ | refine LeO.ite ?_ ?_ | refine LeO.bind ?_ (fun _ => ?_)
    · intro y0 y1 y2 y3 y4 y5
      unfold spec_LiveFree.j2
      repeat' first
        | (with_reducible first | exact ih0 .. | exact ih1 .. | exact ih2 .. | exact spec_LiveOk.mono .. | exact LeO.refl _ | exact LeO.none _ | refine LeO.ite ?_ ?_ | refine LeO.bind ?_ (fun _ => ?_))
        | exact LeO.none _ | refine LeO.ite ?_ ?_ | refine LeO.bind ?_ (fun _ => ?_)
theorem spec_LiveFree.mono : ∀ a0 a1 k, LeO (spec_LiveFree.f k a0 a1) (spec_LiveFree.f (k + 1) a0 a1) := by
  intro a0 a1 k
  obtain ⟨ih0, ih1, ih2⟩ := spec_LiveFree.mono_l k
  unfold spec_LiveFree.f
  repeat' first
    | (with_reducible first | exact ih0 .. | exact ih1 .. | exact ih2 .. | exact spec_LiveOk.mono .. | exact LeO.refl _ | exact LeO.none _ | refine LeO.ite ?_ ?_ | refine LeO.bind ?_ (fun _ => ?_))
    | exact LeO.none _ | refine LeO.ite ?_ ?_ | refine LeO.bind ?_ (fun _ => ?_)
set_option maxHeartbeats 2000000 in
set_option maxRecDepth 100000 in
theorem spec_LiveFree.calls (k : Nat) (A0 : Option Addr) (c0 : Nat) (l0 : List (S37)) (a1 : Int) (r : List (S37)) (w : World) (hr0 : Kd.C k37 w A0 l0.length l0) (hc0 : l0.length ≤ c0) (h : spec_LiveFree.f k l0 a1 = some r) :
    Calls Try.prog 34 #[.slice A0 l0.length c0, .int .i64 a1] w fun e w' => ∃ v0_ : Value, e = .returned (v0_) ∧ Kd.R k37 37 w' w.heap.size (fun _ => True) v0_ r ∧ Below w.heap.size w w' := by
  have hu37 := Try.underlying37
  have HR0 := Aside0.mk hr0
  have HC0 := Aside0.mk hc0
  clear hr0 hc0
  have HB := Aside0.mk (Below.refl w.heap.size w)
  unfold spec_LiveFree.f at h
  have H := h
  clear h
  obtain ⟨y307, hy307⟩ : ∃ y_ : List (S37), y_ = (([] : List (S37))) := ⟨_, rfl⟩
  rw [← hy307] at H
  try with_reducible replace H := bs H
  have Ny307 := Aside0.mk hy307
  clear hy307
  have H' := Aside0.mk H
  clear H
  go_enter Try.func34, Try.ntmps34
  go_wp2_with (first | ((with_reducible refine gate_dst (N := 9) rfl ?_); (try (refine gate_guard (by rfl) ?_; dsimp only)); refine Kd.R_lit k37 _ 37 ?hg (N := 9) ?hd (xs := ([] : List (S37))) (inner := []) (ok := fun _ => True) (okp := fun _ => True) ?hr ?hp (fun _ hk => hk) trivial (Below.refl _ _) (Nat.le_refl _) (by simp) ?_; (case hd => rfl); (case hg => rfl); (case hr => first | (go_simp; done) | (go_simp; rfl)); (case hp => exact (Reps.none _ _)); intro v308 w3 ho4 hb hg_ hnew_; clear hg_ hnew_; (first | rw [← Ny307.out] at ho4 | (simp only [Int.reduceToNat] at ho4; rw [← Ny307.out] at ho4)); have HO309 := Aside0.mk (Kd.R_lower ho4 (below_size bw)); replace HB := hs hb; clear hb ho4))
  repeat (go_quiet (first | ((with_reducible refine gate_dst (N := 9) rfl ?_); (try (refine gate_guard (by rfl) ?_; dsimp only)); refine Kd.R_lit k37 _ 37 ?hg (N := 9) ?hd (xs := ([] : List (S37))) (inner := []) (ok := fun _ => True) (okp := fun _ => True) ?hr ?hp (fun _ hk => hk) trivial (Below.refl _ _) (Nat.le_refl _) (by simp) ?_; (case hd => rfl); (case hg => rfl); (case hr => first | (go_simp; done) | (go_simp; rfl)); (case hp => exact (Reps.none _ _)); intro v308 w3 ho4 hb hg_ hnew_; clear hg_ hnew_; (first | rw [← Ny307.out] at ho4 | (simp only [Int.reduceToNat] at ho4; rw [← Ny307.out] at ho4)); have HO309 := Aside0.mk (Kd.R_lower ho4 (below_size bw)); replace HB := hs hb; clear hb ho4)); try go_wp2_with (first | ((with_reducible refine gate_dst (N := 9) rfl ?_); (try (refine gate_guard (by rfl) ?_; dsimp only)); refine Kd.R_lit k37 _ 37 ?hg (N := 9) ?hd (xs := ([] : List (S37))) (inner := []) (ok := fun _ => True) (okp := fun _ => True) ?hr ?hp (fun _ hk => hk) trivial (Below.refl _ _) (Nat.le_refl _) (by simp) ?_; (case hd => rfl); (case hg => rfl); (case hr => first | (go_simp; done) | (go_simp; rfl)); (case hp => exact (Reps.none _ _)); intro v308 w3 ho4 hb hg_ hnew_; clear hg_ hnew_; (first | rw [← Ny307.out] at ho4 | (simp only [Int.reduceToNat] at ho4; rw [← Ny307.out] at ho4)); have HO309 := Aside0.mk (Kd.R_lower ho4 (below_size bw)); replace HB := hs hb; clear hb ho4)))
  go_loopg [5, 6, 7] k (fun kq v5 v6 v7 w' => ∃ (x5_1 : List (S37)) (x6_1 : Int) (x7_1 : Int), v6 = .int .i64 x6_1 ∧ v7 = .int .i64 x7_1 ∧ Aside0 (spec_LiveFree.l0 kq l0 a1 x5_1 x6_1 x7_1 = some r) ∧ Aside0 (kq ≤ k) ∧ Aside0 (Kd.R k37 37 w' w.heap.size (fun _ => True) v5 x5_1) ∧ Aside0 (Below w.heap.size w w'))
  case atStart => exact ⟨(y307), (0), (0), ev, ev, H', ⟨Nat.le_refl _⟩, ⟨ro HO309⟩, ⟨bw⟩⟩
  case round =>
    clear H'
    obtain ⟨x5_1, x6_1, x7_1, rfl, rfl, HA, HK1, HO_5, HB⟩ := hrel
    cases gk with
    | zero => exact absurd HA.out (by simp [spec_LiveFree.l0])
    | succ k1 =>
      have H := HA.out
      clear HA
      simp only [spec_LiveFree.l0] at H
      have HC5 := Aside0.mk H
      clear H
      go_upto_region 4 with (fail)
      repeat (go_quiet (fail); go_upto_region 4 with (fail))
      go_cut [18] (fun v18 wc => ∃ (kq : Nat) (x18_4 : Bool), v18 = .bool x18_4 ∧ Aside0 (spec_LiveFree.j1 kq l0 a1 x5_1 x6_1 x7_1 x18_4 = some r) ∧ Aside0 (kq ≤ k1) ∧ Aside0 (Kd.R k37 37 wc w.heap.size (fun _ => True) u5 x5_1) ∧ Aside0 (Below w.heap.size w wc))
      case first =>
        have H := HC5.out
        clear HC5
        replace H := bn H
        obtain ⟨t310, A6, H⟩ := H
        try dsimp only at H
        replace H := ib H
        rcases H with ⟨rfl, H⟩ | ⟨rfl, H⟩
        · (try simp only [Bool.not_true, Bool.not_false])
          have H' := Aside0.mk H
          clear H
          go_wp2_with (first | (go_at_call 37; (with_reducible refine (spec_LiveOk.calls _ _ _ _ _ _ _ ?side1 ?side2 A6.out).mono ?_); (case side1 => repeat (first | exact (Kd.C_below HR0.out HB.out) | (with_reducible refine Kd.C_alloc ?_ _) | (with_reducible refine Kd.C_drewN ?_ _) | (with_reducible refine Kd.C_drew ?_))); (case side2 => exact HC0.out); rintro e w8 ⟨rfl, hb⟩; replace HO_5 := Aside0.mk (Kd.R_below (ro HO_5) hb); replace HB := hs hb; try clear hb))
          repeat (go_quiet (first | (go_at_call 37; (with_reducible refine (spec_LiveOk.calls _ _ _ _ _ _ _ ?side1 ?side2 A6.out).mono ?_); (case side1 => repeat (first | exact (Kd.C_below HR0.out HB.out) | (with_reducible refine Kd.C_alloc ?_ _) | (with_reducible refine Kd.C_drewN ?_ _) | (with_reducible refine Kd.C_drew ?_))); (case side2 => exact HC0.out); rintro e w8 ⟨rfl, hb⟩; replace HO_5 := Aside0.mk (Kd.R_below (ro HO_5) hb); replace HB := hs hb; try clear hb)); try go_wp2_with (first | (go_at_call 37; (with_reducible refine (spec_LiveOk.calls _ _ _ _ _ _ _ ?side1 ?side2 A6.out).mono ?_); (case side1 => repeat (first | exact (Kd.C_below HR0.out HB.out) | (with_reducible refine Kd.C_alloc ?_ _) | (with_reducible refine Kd.C_drewN ?_ _) | (with_reducible refine Kd.C_drew ?_))); (case side2 => exact HC0.out); rintro e w8 ⟨rfl, hb⟩; replace HO_5 := Aside0.mk (Kd.R_below (ro HO_5) hb); replace HB := hs hb; try clear hb)))
          go_meet
          case rel => exact ⟨_, (decide (x7_1 ≤ (l0.length : Int))), ev, H', ⟨by have := HK1.out; first | omega | exact Nat.le_refl _⟩, ⟨ro HO_5⟩, ⟨bw⟩⟩
        · (try simp only [Bool.not_true, Bool.not_false])
          have H' := Aside0.mk H
          clear H
          go_wp2_with (first | (go_at_call 37; (with_reducible refine (spec_LiveOk.calls _ _ _ _ _ _ _ ?side1 ?side2 A6.out).mono ?_); (case side1 => repeat (first | exact (Kd.C_below HR0.out HB.out) | (with_reducible refine Kd.C_alloc ?_ _) | (with_reducible refine Kd.C_drewN ?_ _) | (with_reducible refine Kd.C_drew ?_))); (case side2 => exact HC0.out); rintro e w9 ⟨rfl, hb⟩; replace HO_5 := Aside0.mk (Kd.R_below (ro HO_5) hb); replace HB := hs hb; try clear hb))
          repeat (go_quiet (first | (go_at_call 37; (with_reducible refine (spec_LiveOk.calls _ _ _ _ _ _ _ ?side1 ?side2 A6.out).mono ?_); (case side1 => repeat (first | exact (Kd.C_below HR0.out HB.out) | (with_reducible refine Kd.C_alloc ?_ _) | (with_reducible refine Kd.C_drewN ?_ _) | (with_reducible refine Kd.C_drew ?_))); (case side2 => exact HC0.out); rintro e w9 ⟨rfl, hb⟩; replace HO_5 := Aside0.mk (Kd.R_below (ro HO_5) hb); replace HB := hs hb; try clear hb)); try go_wp2_with (first | (go_at_call 37; (with_reducible refine (spec_LiveOk.calls _ _ _ _ _ _ _ ?side1 ?side2 A6.out).mono ?_); (case side1 => repeat (first | exact (Kd.C_below HR0.out HB.out) | (with_reducible refine Kd.C_alloc ?_ _) | (with_reducible refine Kd.C_drewN ?_ _) | (with_reducible refine Kd.C_drew ?_))); (case side2 => exact HC0.out); rintro e w9 ⟨rfl, hb⟩; replace HO_5 := Aside0.mk (Kd.R_below (ro HO_5) hb); replace HB := hs hb; try clear hb)))
          go_meet
          case rel => exact ⟨_, (false), ev, H', ⟨by have := HK1.out; first | omega | exact Nat.le_refl _⟩, ⟨ro HO_5⟩, ⟨bw⟩⟩
      case rest =>
        clear HC5
        obtain ⟨kq, x18_4, rfl, HA, HJ4, HO_5, HB⟩ := hcut
        cases kq with
        | zero => exact absurd HA.out (by simp [spec_LiveFree.j1])
        | succ kj4 =>
          have H := HA.out
          clear HA
          simp only [spec_LiveFree.j1] at H
          replace H := ib H
          rcases H with ⟨rfl, H⟩ | ⟨rfl, H⟩
          · have HC11 := Aside0.mk H
            clear H
            go_upto_if 25 with (fail)
            repeat (go_quiet (fail); go_upto_if 25 with (fail))
            go_cut [8] (fun v8 wc => ∃ (kq : Nat) (x8_10 : Int), v8 = .int .i64 x8_10 ∧ Aside0 (spec_LiveFree.j2 kq l0 a1 x5_1 x6_1 x7_1 x8_10 = some r) ∧ Aside0 (kq ≤ kj4) ∧ Aside0 (Kd.R k37 37 wc w.heap.size (fun _ => True) u5 x5_1) ∧ Aside0 (Below w.heap.size w wc))
            case first =>
              have H := HC11.out
              clear HC11
              replace H := ilt H
              rcases H with ⟨c12b0, H⟩ | ⟨c12b0, H⟩
              · (first | rw [c12b0] | (simp only [i64_w, i32_w]; rw [c12b0]) | (simp only [c12b2, Bool.not_true, Bool.not_false]) | (simp only [c12b1, Bool.not_true, Bool.not_false]) | skip)
                by_cases c13 : 0 ≤ x7_1
                · rw [if_pos c13] at H
                  have c13b0 : decide (0 ≤ x7_1) = true := decide_eq_true c13
                  clear c13
                  have H' := Aside0.mk H
                  clear H
                  have p311 : 0 ≤ (x7_1 : Int) := of_decide_eq_true as_
                  have q311 : x7_1 < (l0.length : Int) := of_decide_eq_true as_
                  obtain ⟨ad311, e311, hx311_0, hx311_1⟩ := at_T37 HR0.out x7_1 p311 q311
                  cases e311
                  replace hx311_0 := cl HB hx311_0
                  replace hx311_1 := cl HB hx311_1
                  replace p311 := eq_true p311
                  replace q311 := eq_true q311
                  go_wp2
                  repeat (go_quiet (fail); try go_wp2)
                  go_meet
                  case rel => exact ⟨_, ((rd_T37 l0 x7_1).f0), ev, H', ⟨by have := HK1.out; have := HJ4.out; first | omega | exact Nat.le_refl _⟩, ⟨ro HO_5⟩, ⟨bw⟩⟩
                · rw [if_neg c13] at H
                  exact absurd H (by simp)
              · (first | rw [c12b0] | (simp only [i64_w, i32_w]; rw [c12b0]) | (simp only [c12b2, Bool.not_true, Bool.not_false]) | (simp only [c12b1, Bool.not_true, Bool.not_false]) | skip)
                have H' := Aside0.mk H
                clear H
                go_wp2
                repeat (go_quiet (fail); try go_wp2)
                go_meet
                case rel => exact ⟨_, (a1), ev, H', ⟨by have := HK1.out; have := HJ4.out; first | omega | exact Nat.le_refl _⟩, ⟨ro HO_5⟩, ⟨bw⟩⟩
            case rest =>
              clear HC11
              try clear c10
              obtain ⟨kq, x8_10, rfl, HA, HJ10, HO_5, HB⟩ := hcut
              cases kq with
              | zero => exact absurd HA.out (by simp [spec_LiveFree.j2])
              | succ kj10 =>
                have H := HA.out
                clear HA
                simp only [spec_LiveFree.j2] at H
                replace H := igt H
                rcases H with ⟨c14b0, H⟩ | ⟨c14b0, H⟩
                · by_cases c15 : x5_1.length < 8796093022208
                  · rw [if_pos c15] at H
                    have LMc15 := Aside0.mk c15
                    clear c15
                    obtain ⟨y312, hy312⟩ : ∃ y_ : List (S37), y_ = (x5_1 ++ [(⟨x6_1, wrap64 (x8_10 - x6_1)⟩ : S37)]) := ⟨_, rfl⟩
                    rw [← hy312] at H
                    try with_reducible replace H := bs H
                    have Ny312 := Aside0.mk hy312
                    clear hy312
                    have HU16 := Aside0.mk H
                    clear H
                    go_upto_if 45 with (first | ((with_reducible refine gate_builtin (b := .append) (xs := #[.tmp 34, .tmp 40]) rfl ?_); (try (refine gate_guard (by rfl) ?_; dsimp only)); at_builtin; refine Kd.R_append k37 (w0 := w) w.heap.size rfl (.tmp 34) (.tmp 40) 35 37 (.agg #[(.int .i64 0), (.int .i64 0)]) 16 rfl Try.underlying35 info37 rfl (by decide) (by omega) u5 x5_1 (⟨x6_1, wrap64 (x8_10 - x6_1)⟩ : S37) [.int .i64 x6_1, .int .i64 (wrap64 (x8_10 - x6_1))] (fun _ => True) (fun _ => False) rfl rfl ?aP (fun _ hk => hk.elim) ?aF ?aO ?aB ?aS ?aL ?_; (case aP => exact k37_mkM _ _ _ (⟨x6_1, wrap64 (x8_10 - x6_1)⟩ : S37)); (case aB => exact bw); (case aF => exact (fun _ _ => trivial)); (case aO => exact (ro HO_5)); (case aS => exact (below_size bw)); (case aL => have := LMc15.out; omega); intro v313 w17 ho hb hg hat; rw [← Ny312.out] at ho; have HO314 := Aside0.mk (ho); replace HB := Aside0.mk (hb); clear HO_5; clear ho hb hg hat))
                    repeat (go_quiet (first | ((with_reducible refine gate_builtin (b := .append) (xs := #[.tmp 34, .tmp 40]) rfl ?_); (try (refine gate_guard (by rfl) ?_; dsimp only)); at_builtin; refine Kd.R_append k37 (w0 := w) w.heap.size rfl (.tmp 34) (.tmp 40) 35 37 (.agg #[(.int .i64 0), (.int .i64 0)]) 16 rfl Try.underlying35 info37 rfl (by decide) (by omega) u5 x5_1 (⟨x6_1, wrap64 (x8_10 - x6_1)⟩ : S37) [.int .i64 x6_1, .int .i64 (wrap64 (x8_10 - x6_1))] (fun _ => True) (fun _ => False) rfl rfl ?aP (fun _ hk => hk.elim) ?aF ?aO ?aB ?aS ?aL ?_; (case aP => exact k37_mkM _ _ _ (⟨x6_1, wrap64 (x8_10 - x6_1)⟩ : S37)); (case aB => exact bw); (case aF => exact (fun _ _ => trivial)); (case aO => exact (ro HO_5)); (case aS => exact (below_size bw)); (case aL => have := LMc15.out; omega); intro v313 w17 ho hb hg hat; rw [← Ny312.out] at ho; have HO314 := Aside0.mk (ho); replace HB := Aside0.mk (hb); clear HO_5; clear ho hb hg hat)); go_upto_if 45 with (first | ((with_reducible refine gate_builtin (b := .append) (xs := #[.tmp 34, .tmp 40]) rfl ?_); (try (refine gate_guard (by rfl) ?_; dsimp only)); at_builtin; refine Kd.R_append k37 (w0 := w) w.heap.size rfl (.tmp 34) (.tmp 40) 35 37 (.agg #[(.int .i64 0), (.int .i64 0)]) 16 rfl Try.underlying35 info37 rfl (by decide) (by omega) u5 x5_1 (⟨x6_1, wrap64 (x8_10 - x6_1)⟩ : S37) [.int .i64 x6_1, .int .i64 (wrap64 (x8_10 - x6_1))] (fun _ => True) (fun _ => False) rfl rfl ?aP (fun _ hk => hk.elim) ?aF ?aO ?aB ?aS ?aL ?_; (case aP => exact k37_mkM _ _ _ (⟨x6_1, wrap64 (x8_10 - x6_1)⟩ : S37)); (case aB => exact bw); (case aF => exact (fun _ _ => trivial)); (case aO => exact (ro HO_5)); (case aS => exact (below_size bw)); (case aL => have := LMc15.out; omega); intro v313 w17 ho hb hg hat; rw [← Ny312.out] at ho; have HO314 := Aside0.mk (ho); replace HB := Aside0.mk (hb); clear HO_5; clear ho hb hg hat)))
                    (try refine ap ?_)
                    have H := HU16.out
                    clear HU16
                    replace H := ilt H
                    rcases H with ⟨c18b0, H⟩ | ⟨c18b0, H⟩
                    · (first | rw [c18b0] | (simp only [i64_w, i32_w]; rw [c18b0]) | (simp only [c18b2, Bool.not_true, Bool.not_false]) | (simp only [c18b1, Bool.not_true, Bool.not_false]) | skip)
                      by_cases c19 : 0 ≤ x7_1
                      · rw [if_pos c19] at H
                        have c19b0 : decide (0 ≤ x7_1) = true := decide_eq_true c19
                        clear c19
                        have H' := Aside0.mk H
                        clear H
                        have p315 : 0 ≤ (x7_1 : Int) := of_decide_eq_true as_
                        have q315 : x7_1 < (l0.length : Int) := of_decide_eq_true as_
                        obtain ⟨ad315, e315, hx315_0, hx315_1⟩ := at_T37 HR0.out x7_1 p315 q315
                        cases e315
                        replace hx315_0 := cl HB hx315_0
                        replace hx315_1 := cl HB hx315_1
                        replace p315 := eq_true p315
                        replace q315 := eq_true q315
                        have p316 : 0 ≤ (x7_1 : Int) := of_decide_eq_true as_
                        have q316 : x7_1 < (l0.length : Int) := of_decide_eq_true as_
                        obtain ⟨ad316, e316, hx316_0, hx316_1⟩ := at_T37 HR0.out x7_1 p316 q316
                        obtain rfl : ad315 = ad316 := (by injection e316)
                        replace hx316_0 := cl HB hx316_0
                        replace hx316_1 := cl HB hx316_1
                        replace p316 := eq_true p316
                        replace q316 := eq_true q316
                        go_wp2
                        repeat (go_quiet (fail); try go_wp2)
                        go_roundg kj10
                        case measure => have := HK1.out; have := HJ4.out; have := HJ10.out; omega
                        case rel => exact ⟨(y312), (wrap64 (((rd_T37 l0 x7_1).f0) + ((rd_T37 l0 x7_1).f1))), (wrap64 (x7_1 + 1)), ev, ev, H', ⟨by have := HK1.out; have := HJ4.out; have := HJ10.out; omega⟩, ⟨ro HO314⟩, ⟨bw⟩⟩
                      · rw [if_neg c19] at H
                        exact absurd H (by simp)
                    · (first | rw [c18b0] | (simp only [i64_w, i32_w]; rw [c18b0]) | (simp only [c18b2, Bool.not_true, Bool.not_false]) | (simp only [c18b1, Bool.not_true, Bool.not_false]) | skip)
                      have H' := Aside0.mk H
                      clear H
                      go_wp2
                      repeat (go_quiet (fail); try go_wp2)
                      go_roundg kj10
                      case measure => have := HK1.out; have := HJ4.out; have := HJ10.out; omega
                      case rel => exact ⟨(y312), (x6_1), (wrap64 (x7_1 + 1)), ev, ev, H', ⟨by have := HK1.out; have := HJ4.out; have := HJ10.out; omega⟩, ⟨ro HO314⟩, ⟨bw⟩⟩
                  · rw [if_neg c15] at H
                    exact absurd H (by simp)
                · replace H := ilt H
                  rcases H with ⟨c20b0, H⟩ | ⟨c20b0, H⟩
                  · by_cases c21 : 0 ≤ x7_1
                    · rw [if_pos c21] at H
                      have c21b0 : decide (0 ≤ x7_1) = true := decide_eq_true c21
                      clear c21
                      have H' := Aside0.mk H
                      clear H
                      have p317 : 0 ≤ (x7_1 : Int) := of_decide_eq_true as_
                      have q317 : x7_1 < (l0.length : Int) := of_decide_eq_true as_
                      obtain ⟨ad317, e317, hx317_0, hx317_1⟩ := at_T37 HR0.out x7_1 p317 q317
                      cases e317
                      replace hx317_0 := cl HB hx317_0
                      replace hx317_1 := cl HB hx317_1
                      replace p317 := eq_true p317
                      replace q317 := eq_true q317
                      have p318 : 0 ≤ (x7_1 : Int) := of_decide_eq_true as_
                      have q318 : x7_1 < (l0.length : Int) := of_decide_eq_true as_
                      obtain ⟨ad318, e318, hx318_0, hx318_1⟩ := at_T37 HR0.out x7_1 p318 q318
                      obtain rfl : ad317 = ad318 := (by injection e318)
                      replace hx318_0 := cl HB hx318_0
                      replace hx318_1 := cl HB hx318_1
                      replace p318 := eq_true p318
                      replace q318 := eq_true q318
                      go_wp2
                      repeat (go_quiet (fail); try go_wp2)
                      go_roundg kj10
                      case measure => have := HK1.out; have := HJ4.out; have := HJ10.out; omega
                      case rel => exact ⟨(x5_1), (wrap64 (((rd_T37 l0 x7_1).f0) + ((rd_T37 l0 x7_1).f1))), (wrap64 (x7_1 + 1)), ev, ev, H', ⟨by have := HK1.out; have := HJ4.out; have := HJ10.out; omega⟩, ⟨ro HO_5⟩, ⟨bw⟩⟩
                    · rw [if_neg c21] at H
                      exact absurd H (by simp)
                  · have H' := Aside0.mk H
                    clear H
                    go_wp2
                    repeat (go_quiet (fail); try go_wp2)
                    go_roundg kj10
                    case measure => have := HK1.out; have := HJ4.out; have := HJ10.out; omega
                    case rel => exact ⟨(x5_1), (x6_1), (wrap64 (x7_1 + 1)), ev, ev, H', ⟨by have := HK1.out; have := HJ4.out; have := HJ10.out; omega⟩, ⟨ro HO_5⟩, ⟨bw⟩⟩
          · obtain rfl := Option.some.inj H
            go_wp2
            repeat (go_quiet (fail); try go_wp2)
            go_ret
            exact ⟨_, rt, ro HO_5, bw⟩

/-! ### spec_l01Cur_once: function 35 -/
def spec_l01Cur_once.f (s0_0 : List Int) (s0_1 : Int) (s0_2 : Int) (a1 : Int) : Option (Bool × Int × Int) := (spec_l01Cur_pick.f s0_0 s0_1 s0_2 a1).bind fun bt319 => (some ((bt319.1 == (wrap64 (a1 - 1))), bt319.2.1, bt319.2.2))
set_option maxHeartbeats 2000000 in
set_option maxRecDepth 100000 in
theorem spec_l01Cur_once.calls (g : Nat) (s0_0 : List Int) (s0_1 : Int) (s0_2 : Int) (a1 : Int) (r1 : Bool) (r2 : Int) (r3 : Int) (w0 w : World) (hI : IsS82 w0 w g s0_0 s0_1 s0_2) (hB : Below w0.heap.size w0 w) (h : spec_l01Cur_once.f s0_0 s0_1 s0_2 a1 = some (r1, r2, r3)) :
    Calls Try.prog 35 #[.pointer (some ⟨g, 0, none⟩), .int .i64 a1] w fun e w' => e = .returned (.bool r1) ∧ IsS82 w0 w' g s0_0 r2 r3 ∧ Below w0.heap.size w0 w' ∧ KeepBut w w' g none := by
  have HI0 := Aside0.mk hI
  have HK := Aside0.mk (KeepBut.refl w g none)
  have HL := Aside0.mk hB.size
  clear hI
  have HW0 := Aside0.mk hB.size
  have HB := Aside0.mk hB
  clear hB
  unfold spec_l01Cur_once.f at h
  have H := h
  clear h
  replace H := bn H
  obtain ⟨⟨t319, t320, t321⟩, A3, H⟩ := H
  try dsimp only at H
  simp only [Option.some.injEq, Prod.mk.injEq] at H
  obtain ⟨rfl, rfl, rfl⟩ := H
  go_enter Try.func35, Try.ntmps35
  go_wp2_with (first | ((with_reducible refine gf 33 ?_); refine gl 33 Try.func33 (some 7) #[.pointer (some ⟨g, 0, none⟩), .int .i64 a1] ?_; (with_reducible refine (spec_l01Cur_pick.calls _ _ _ _ _ _ _ _ w0 _ ?side1 ?side2 A3.out).mono ?_); (case side1 => repeat (first | (with_reducible first | exact HI0.out | apply IsS82.alloc | apply IsS82.drewN | apply IsS82.drew | apply IsS82.set_1 | apply IsS82.set_2) | exact HI0.out)); (case side2 => repeat (first | (with_reducible first | exact HB.out | apply below_alloc | apply pw_below_drewN | apply below_drew1 | refine below_set ?_ (IsS82.ge HI0.out)) | exact HB.out)); rintro e w4 ⟨rfl, hi, hb, hk⟩; refine ⟨_, rfl, ?_⟩; replace HK := Aside0.mk (KeepBut.trans (by repeat (first | (with_reducible first | exact HK.out | apply KeepBut.set_ | apply keep_drewN | apply keep_drew | apply keep_alloc) | exact HK.out)) hk (.inl rfl)); replace HI0 := Aside0.mk (hi); replace HB := Aside0.mk (hb); try clear hb))
  go_ret
  exact ⟨rt, by repeat (first | (with_reducible first | exact HI0.out | apply IsS82.alloc | apply IsS82.drewN | apply IsS82.drew | apply IsS82.set_1 | apply IsS82.set_2) | exact HI0.out), by repeat (first | (with_reducible first | exact HB.out | apply below_alloc | apply pw_below_drewN | apply below_drew1 | refine below_set ?_ (IsS82.ge HI0.out)) | exact HB.out), by repeat (first | (with_reducible first | exact HK.out | apply KeepBut.set_ | apply keep_drewN | apply keep_drew | apply keep_alloc) | exact HK.out)⟩

end Go.Proofs.Ytobboonnfocalaa.PB1
