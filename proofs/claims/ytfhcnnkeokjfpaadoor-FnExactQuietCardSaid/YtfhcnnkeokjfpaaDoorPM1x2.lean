/- What functions of the program compute, each as a Lean function, and that the run comes to just that. Conditions: none. -/
import Derived.Test.YtfhcnnkeokjfpaaDoorTM1
import Derived.Test.YtfhcnnkeokjfpaaDoorT2M1
import Derived.Test.YtfhcnnkeokjfpaaDoorPM1x0
import Derived.Test.YtfhcnnkeokjfpaaDoorPM1x1
namespace Go.Proofs.YtfhcnnkeokjfpaaDoor.PM1
open Go.RowKit Go.Proofs.YtfhcnnkeokjfpaaDoorW.PrintWords Go.Proofs.YtfhcnnkeokjfpaaDoorW.PrintLast Go.Proofs.YtfhcnnkeokjfpaaDoorW.PrintMore Go.Proofs.YtfhcnnkeokjfpaaDoor.T
attribute [local go_sem] max2_int min2_int max_two min_two max_three min_three max_four min_four   -- for this text's walks alone
set_option linter.unusedVariables false
set_option linter.unusedSimpArgs false

/-! ### spec_l08Owners: function 55 -/
mutual
def spec_l08Owners.l0 : Nat → Int → List Int → Int → List Int → List (S28) → Option (List Int × Bool)
 | 0, _, _, _, _, _ => none
 | k + 1, x4, x5, x6, x700000, x700001 => if x6 < x4 then (if x5.length < 17592186044416 then (spec_l08Owners.l0 k x4 (x5 ++ [(-1)]) (wrap64 (x6 + 1)) x700000 x700001) else (none)) else (spec_l08Owners.l1 k x4 x5 0 x700000 x700001)
def spec_l08Owners.l1 : Nat → Int → List Int → Int → List Int → List (S28) → Option (List Int × Bool)
 | 0, _, _, _, _, _ => none
 | k + 1, x4, x5, x7, x700000, x700001 => if x7 < x4 then (if 0 ≤ x7 then (if x7 < (x700000.length : Int) then ((spec_CtlRead.f k (rd x700000 x7)).bind fun bt707 => (spec_l08Owners.l2 k x4 x5 x7 0 x700000 x700001 bt707.1 bt707.2.1 bt707.2.2.1 bt707.2.2.2.1)) else (none)) else (none)) else (spec_l08Owners.l3 k x4 x5 0 x700000 x700001)
def spec_l08Owners.l2 : Nat → Int → List Int → Int → Int → List Int → List (S28) → Int → Int → Int → Int → Option (List Int × Bool)
 | 0, _, _, _, _, _, _, _, _, _, _ => none
 | k + 1, x4, x5, x7, x10, x700000, x700001, x713000, x713001, x713002, x713003 => if x10 < x713003 then (if (wrap64 (x7 + x10)) ≥ x4 then (some (([] : List Int), false)) else (if 0 ≤ (wrap64 (x7 + x10)) then (if (wrap64 (x7 + x10)) < (x5.length : Int) then (if (rd x5 (wrap64 (x7 + x10))) = (-1) then (spec_l08Owners.l2 k x4 (x5.set ((wrap64 (x7 + x10)) : Int).toNat (-2)) x7 (wrap64 (x10 + 1)) x700000 x700001 x713000 x713001 x713002 x713003) else (some (([] : List Int), false))) else (none)) else (none))) else (spec_l08Owners.l1 k x4 x5 (wrap64 (x7 + 1)) x700000 x700001)
def spec_l08Owners.l3 : Nat → Int → List Int → Int → List Int → List (S28) → Option (List Int × Bool)
 | 0, _, _, _, _, _ => none
 | k + 1, x4, x5, x11, x700000, x700001 => if x11 < (x700001.length : Int) then (spec_l08Owners.l4 k x4 x5 x11 0 x700000 x700001) else (spec_l08Owners.l5 k x4 x5 0 x700000 x700001)
def spec_l08Owners.l4 : Nat → Int → List Int → Int → Int → List Int → List (S28) → Option (List Int × Bool)
 | 0, _, _, _, _, _, _ => none
 | k + 1, x4, x5, x11, x12, x700000, x700001 => if 0 ≤ x11 then (if x11 < (x700001.length : Int) then (if x12 < ((rd_T28 x700001 x11).f6) then (if (wrap64 (((rd_T28 x700001 x11).f5) + x12)) ≥ x4 then (some (([] : List Int), false)) else (if 0 ≤ (wrap64 (((rd_T28 x700001 x11).f5) + x12)) then (if (wrap64 (((rd_T28 x700001 x11).f5) + x12)) < (x5.length : Int) then (if (rd x5 (wrap64 (((rd_T28 x700001 x11).f5) + x12))) = (-1) then (spec_l08Owners.l4 k x4 (x5.set ((wrap64 (((rd_T28 x700001 x11).f5) + x12)) : Int).toNat x11) x11 (wrap64 (x12 + 1)) x700000 x700001) else (some (([] : List Int), false))) else (none)) else (none))) else (spec_l08Owners.l3 k x4 x5 (wrap64 (x11 + 1)) x700000 x700001)) else (none)) else (none)
def spec_l08Owners.l5 : Nat → Int → List Int → Int → List Int → List (S28) → Option (List Int × Bool)
 | 0, _, _, _, _, _ => none
 | k + 1, x4, x5, x14, x700000, x700001 => if x14 < x4 then (if 0 ≤ x14 then (if x14 < (x700000.length : Int) then ((spec_CtlRead.f k (rd x700000 x14)).bind fun bt720 => (if x14 < (x5.length : Int) then (if (rd x5 x14) = (-1) then (if bt720.1 = 3 then (some (([] : List Int), false)) else (if bt720.1 = 2 then (some (([] : List Int), false)) else (if (rd x5 x14) ≥ 0 then (some (([] : List Int), false)) else (if (rd x5 x14) = (-2) then (some (([] : List Int), false)) else (spec_l08Owners.l5 k x4 x5 (wrap64 (x14 + 1)) x700000 x700001))))) else (if (rd x5 x14) ≥ 0 then (if bt720.1 = 3 then (if (rd x5 x14) = (-2) then (spec_l08Owners.l5 k x4 x5 (wrap64 (x14 + 1)) x700000 x700001) else (spec_l08Owners.l5 k x4 x5 (wrap64 (x14 + 1)) x700000 x700001)) else (some (([] : List Int), false))) else (if (rd x5 x14) = (-2) then (if bt720.1 = 3 then (spec_l08Owners.l5 k x4 x5 (wrap64 (x14 + 1)) x700000 x700001) else (if bt720.1 = 2 then (spec_l08Owners.l5 k x4 x5 (wrap64 (x14 + 1)) x700000 x700001) else (some (([] : List Int), false)))) else (spec_l08Owners.l5 k x4 x5 (wrap64 (x14 + 1)) x700000 x700001)))) else (none))) else (none)) else (none)) else (some (x5, true))
end
def spec_l08Owners.f (k : Nat) (l0_0 : List Int) (l0_1 : List (S28)) : Option (List Int × Bool) := spec_l08Owners.l0 k (l0_0.length : Int) (([] : List Int)) 0 l0_0 l0_1
theorem spec_l08Owners.mono_l : ∀ k, (∀ y0 y1 y2 y3 y4, LeO (spec_l08Owners.l0 k y0 y1 y2 y3 y4) (spec_l08Owners.l0 (k + 1) y0 y1 y2 y3 y4)) ∧ (∀ y0 y1 y2 y3 y4, LeO (spec_l08Owners.l1 k y0 y1 y2 y3 y4) (spec_l08Owners.l1 (k + 1) y0 y1 y2 y3 y4)) ∧ (∀ y0 y1 y2 y3 y4 y5 y6 y7 y8 y9, LeO (spec_l08Owners.l2 k y0 y1 y2 y3 y4 y5 y6 y7 y8 y9) (spec_l08Owners.l2 (k + 1) y0 y1 y2 y3 y4 y5 y6 y7 y8 y9)) ∧ (∀ y0 y1 y2 y3 y4, LeO (spec_l08Owners.l3 k y0 y1 y2 y3 y4) (spec_l08Owners.l3 (k + 1) y0 y1 y2 y3 y4)) ∧ (∀ y0 y1 y2 y3 y4 y5, LeO (spec_l08Owners.l4 k y0 y1 y2 y3 y4 y5) (spec_l08Owners.l4 (k + 1) y0 y1 y2 y3 y4 y5)) ∧ (∀ y0 y1 y2 y3 y4, LeO (spec_l08Owners.l5 k y0 y1 y2 y3 y4) (spec_l08Owners.l5 (k + 1) y0 y1 y2 y3 y4))
 | 0 => ⟨fun _ _ _ _ _ r h => by simp [spec_l08Owners.l0] at h, fun _ _ _ _ _ r h => by simp [spec_l08Owners.l1] at h, fun _ _ _ _ _ _ _ _ _ _ r h => by simp [spec_l08Owners.l2] at h, fun _ _ _ _ _ r h => by simp [spec_l08Owners.l3] at h, fun _ _ _ _ _ _ r h => by simp [spec_l08Owners.l4] at h, fun _ _ _ _ _ r h => by simp [spec_l08Owners.l5] at h⟩
 | k + 1 => by
  obtain ⟨ih0, ih1, ih2, ih3, ih4, ih5⟩ := spec_l08Owners.mono_l k
  refine ⟨?_, ?_, ?_, ?_, ?_, ?_⟩
  ·intro y0 y1 y2 y3 y4
   unfold spec_l08Owners.l0
   repeat' first
    | (with_reducible first | exact ih0 .. | exact ih1 .. | exact ih2 .. | exact ih3 .. | exact ih4 .. | exact ih5 .. | exact spec_CtlRead.mono .. | exact LeO.refl _ | exact LeO.none _ | refine LeO.ite ?_ ?_ | refine LeO.bind ?_ (fun _ => ?_))
    | exact LeO.none _ | refine LeO.ite ?_ ?_ | refine LeO.bind ?_ (fun _ => ?_)
  ·intro y0 y1 y2 y3 y4
   unfold spec_l08Owners.l1
   repeat' first
    | (with_reducible first | exact ih0 .. | exact ih1 .. | exact ih2 .. | exact ih3 .. | exact ih4 .. | exact ih5 .. | exact spec_CtlRead.mono .. | exact LeO.refl _ | exact LeO.none _ | refine LeO.ite ?_ ?_ | refine LeO.bind ?_ (fun _ => ?_))
    | exact LeO.none _ | refine LeO.ite ?_ ?_ | refine LeO.bind ?_ (fun _ => ?_)
  ·intro y0 y1 y2 y3 y4 y5 y6 y7 y8 y9
   unfold spec_l08Owners.l2
   repeat' first
    | (with_reducible first | exact ih0 .. | exact ih1 .. | exact ih2 .. | exact ih3 .. | exact ih4 .. | exact ih5 .. | exact spec_CtlRead.mono .. | exact LeO.refl _ | exact LeO.none _ | refine LeO.ite ?_ ?_ | refine LeO.bind ?_ (fun _ => ?_))
    | exact LeO.none _ | refine LeO.ite ?_ ?_ | refine LeO.bind ?_ (fun _ => ?_)
  ·intro y0 y1 y2 y3 y4
   unfold spec_l08Owners.l3
   repeat' first
    | (with_reducible first | exact ih0 .. | exact ih1 .. | exact ih2 .. | exact ih3 .. | exact ih4 .. | exact ih5 .. | exact spec_CtlRead.mono .. | exact LeO.refl _ | exact LeO.none _ | refine LeO.ite ?_ ?_ | refine LeO.bind ?_ (fun _ => ?_))
    | exact LeO.none _ | refine LeO.ite ?_ ?_ | refine LeO.bind ?_ (fun _ => ?_)
  ·intro y0 y1 y2 y3 y4 y5
   unfold spec_l08Owners.l4
   repeat' first
    | (with_reducible first | exact ih0 .. | exact ih1 .. | exact ih2 .. | exact ih3 .. | exact ih4 .. | exact ih5 .. | exact spec_CtlRead.mono .. | exact LeO.refl _ | exact LeO.none _ | refine LeO.ite ?_ ?_ | refine LeO.bind ?_ (fun _ => ?_))
    | exact LeO.none _ | refine LeO.ite ?_ ?_ | refine LeO.bind ?_ (fun _ => ?_)
  ·intro y0 y1 y2 y3 y4
   unfold spec_l08Owners.l5
   repeat' first
    | (with_reducible first | exact ih0 .. | exact ih1 .. | exact ih2 .. | exact ih3 .. | exact ih4 .. | exact ih5 .. | exact spec_CtlRead.mono .. | exact LeO.refl _ | exact LeO.none _ | refine LeO.ite ?_ ?_ | refine LeO.bind ?_ (fun _ => ?_))
    | exact LeO.none _ | refine LeO.ite ?_ ?_ | refine LeO.bind ?_ (fun _ => ?_)
theorem spec_l08Owners.mono : ∀ a0 a1 k, LeO (spec_l08Owners.f k a0 a1) (spec_l08Owners.f (k + 1) a0 a1) := by
 intro a0 a1 k
 obtain ⟨ih0, ih1, ih2, ih3, ih4, ih5⟩ := spec_l08Owners.mono_l k
 unfold spec_l08Owners.f
 repeat' first
  | (with_reducible first | exact ih0 .. | exact ih1 .. | exact ih2 .. | exact ih3 .. | exact ih4 .. | exact ih5 .. | exact spec_CtlRead.mono .. | exact LeO.refl _ | exact LeO.none _ | refine LeO.ite ?_ ?_ | refine LeO.bind ?_ (fun _ => ?_))
  | exact LeO.none _ | refine LeO.ite ?_ ?_ | refine LeO.bind ?_ (fun _ => ?_)
set_option maxHeartbeats 8000000 in
set_option maxRecDepth 100000 in
theorem spec_l08Owners.calls (k : Nat) (A0_0 : Option Addr) (c0_0 : Nat) (l0_0 : List Int) (A0_1 : Option Addr) (c0_1 : Nat) (l0_1 : List (S28)) (r1 : List Int) (r2 : Bool) (w : World) (hr0_0 : Kd.C (Kd.int .u32) w A0_0 l0_0.length l0_0) (hc0_0 : l0_0.length ≤ c0_0) (hr0_1 : Kd.C k28 w A0_1 l0_1.length l0_1) (hc0_1 : l0_1.length ≤ c0_1) (h : spec_l08Owners.f k l0_0 l0_1 = some (r1, r2)) :
  Calls Tryd.prog 55 #[.agg #[.slice A0_0 l0_0.length c0_0, .slice A0_1 l0_1.length c0_1]] w fun e w' => ∃ v0_ : Value, e = .returned (.tuple #[v0_, .bool r2]) ∧ Kd.R (Kd.int .i64) 3 w' w.heap.size (fun _ => True) v0_ r1 ∧ Below w.heap.size w w' := by
 have hu56 := Tryd.underlying56
 have hu91 := Tryd.underlying91
 have HR0_0 := Aside0.mk hr0_0
 have HC0_0 := Aside0.mk hc0_0
 clear hr0_0 hc0_0
 have HR0_1 := Aside0.mk hr0_1
 have HC0_1 := Aside0.mk hc0_1
 clear hr0_1 hc0_1
 have HB := Aside0.mk (Below.refl w.heap.size w)
 unfold spec_l08Owners.f at h
 have H := h
 clear h
 obtain ⟨y700, hy700⟩ : ∃ y_ : List Int, y_ = (([] : List Int)) := ⟨_, rfl⟩
 rw [← hy700] at H
 try with_reducible replace H := bs H
 have Ny700 := Aside0.mk hy700
 clear hy700
 have H' := Aside0.mk H
 clear H
 go_enter Tryd.func55, Tryd.ntmps55
 go_wp2_with (first | ((with_reducible refine gd 1 ?_); refine bx 1 56 #[.slice A0_0 l0_0.length c0_0, .slice A0_1 l0_1.length c0_1] ?_; clear HB; intro gb699 w2 hg BK699 hb GE699 HB; clear hb hg; obtain ⟨z3_0, z3_1⟩ := ca2 BK699; obtain ⟨f3_0, f3_1⟩ := fa2 BK699) | ((with_reducible refine gate_dst (N := 23) rfl ?_); refine Kd.R_lit (Kd.int .i64) _ 3 ?hg (N := 23) ?hd (xs := ([] : List Int)) (inner := []) (ok := fun _ => True) (okp := fun _ => True) ?hr ?hp (fun _ hk => hk) trivial (Below.refl _ _) (Nat.le_refl _) (by simp) ?_; (case hd => rfl); (case hg => rfl); (case hr => first | (go_simp; done) | (go_simp; rfl)); (case hp => exact (Reps.none _ _)); intro v701 w4 ho5 hb hg_ hnew_; clear hg_ hnew_; (first | rw [← Ny700.out] at ho5 | (simp only [Int.reduceToNat] at ho5; rw [← Ny700.out] at ho5)); have HO702 := Aside0.mk (Kd.R_lower ho5 (below_size bw)); replace BK699 := b_ BK699 hb; replace HB := hs hb; clear hb ho5))
 go_loopg [5, 6] k (fun kq v5 v6 w' => ∃ (x5_1 : List Int) (x6_1 : Int), v6 = .int .i64 x6_1 ∧ Aside0 (spec_l08Owners.l0 kq (l0_0.length : Int) x5_1 x6_1 l0_0 l0_1 = some (r1, r2)) ∧ Aside0 (kq ≤ k) ∧ Aside0 (Kd.R (Kd.int .i64) 3 w' w.heap.size (fun _ => True) v5 x5_1) ∧ Aside0 (w'.heap[gb699]? = some (.cells #[(.slice A0_0 l0_0.length c0_0), (.slice A0_1 l0_1.length c0_1)] 56 (0, 0))) ∧ Aside0 (Below w.heap.size w w'))
 case atStart => exact ⟨(y700), (0), ev, H', ⟨Nat.le_refl _⟩, ⟨ro HO702⟩, ⟨bk BK699⟩, ⟨bw⟩⟩
 case round =>
  clear H'
  (try clear z3_0 z3_1)
  (try clear f3_0 f3_1)
  obtain ⟨x5_1, x6_1, rfl, HA, HK1, HO_5, BK699, HB⟩ := hrel
  cases gk with
  | zero => exact absurd HA.out (by simp [spec_l08Owners.l0])
  | succ k1 =>
   have H := HA.out
   clear HA
   simp only [spec_l08Owners.l0] at H
   replace H := ilt H
   rcases H with ⟨c6b0, H⟩ | ⟨c6b0, H⟩
   ·by_cases c7 : x5_1.length < 17592186044416
    ·rw [if_pos c7] at H
     have LMc7 := Aside0.mk c7
     clear c7
     obtain ⟨y703, hy703⟩ : ∃ y_ : List Int, y_ = (x5_1 ++ [(-1)]) := ⟨_, rfl⟩
     rw [← hy703] at H
     try with_reducible replace H := bs H
     have Ny703 := Aside0.mk hy703
     clear hy703
     have H' := Aside0.mk H
     clear H
     go_wp2_with (first | ((with_reducible refine gate_builtin (b := .append) (xs := #[.tmp 29, .tmp 30]) rfl ?_); at_builtin; refine Kd.R_append (Kd.int .i64) (w0 := w) w.heap.size rfl (.tmp 29) (.tmp 30) 22 3 (.int .i64 0) 8 rfl Tryd.underlying22 info3 rfl (by decide) (by omega) u5 x5_1 (-1) [.int .i64 (-1)] (fun _ => True) (fun _ => False) rfl rfl ?aP (fun _ hk => hk.elim) ?aF ?aO ?aB ?aS ?aL ?_; (case aP => exact rfl); (case aB => exact bw); (case aF => exact (fun _ _ => trivial)); (case aO => exact (ro HO_5)); (case aS => exact (below_size bw)); (case aL => have := LMc7.out; omega); intro v704 w8 ho hb hg hat; rw [← Ny703.out] at ho; replace BK699 := bg BK699 hg (Kd.R_ne HO_5.out BK699.out (by decide)); have HO705 := Aside0.mk (ho); replace HB := Aside0.mk (hb); clear HO_5; clear ho hb hg hat))
     go_roundg k1
     case measure => have := HK1.out; omega
     case rel => exact ⟨(y703), (wrap64 (x6_1 + 1)), ev, H', ⟨oa HK1⟩, ⟨ro HO705⟩, ⟨bk BK699⟩, ⟨bw⟩⟩
    ·rw [if_neg c7] at H
     exact absurd H (by simp)
   ·have H' := Aside0.mk H
    clear H
    go_wp2
    go_loopg [7] k1 (fun kq v7 w' => ∃ (x5_2 : List Int) (x7_2 : Int), v7 = .int .i64 x7_2 ∧ Aside0 (spec_l08Owners.l1 kq (l0_0.length : Int) x5_2 x7_2 l0_0 l0_1 = some (r1, r2)) ∧ Aside0 (kq ≤ k1) ∧ Aside0 (Kd.R (Kd.int .i64) 3 w' w.heap.size (fun _ => True) u5 x5_2) ∧ Aside0 (w'.heap[gb699]? = some (.cells #[(.slice A0_0 l0_0.length c0_0), (.slice A0_1 l0_1.length c0_1)] 56 (0, 0))) ∧ Aside0 (Below w.heap.size w w'))
    case atStart => exact ⟨(x5_1), (0), ev, H', ⟨Nat.le_refl _⟩, ⟨ro HO_5⟩, ⟨bk BK699⟩, ⟨bw⟩⟩
    case round =>
     clear H'
     try clear c6
     try clear c6b0
     (try clear z3_0 z3_1)
     (try clear f3_0 f3_1)
     obtain ⟨x5_2, x7_2, rfl, HA, HK2, HO_5, BK699, HB⟩ := hrel
     cases gk with
     | zero => exact absurd HA.out (by simp [spec_l08Owners.l1])
     | succ k2 =>
      have H := HA.out
      clear HA
      simp only [spec_l08Owners.l1] at H
      replace H := ilt H
      rcases H with ⟨c9b0, H⟩ | ⟨c9b0, H⟩
      ·by_cases c10 : 0 ≤ x7_2
       ·rw [if_pos c10] at H
        have c10b0 : decide (0 ≤ x7_2) = true := decide_eq_true c10
        clear c10
        by_cases c11 : x7_2 < (l0_0.length : Int)
        ·rw [if_pos c11] at H
         have c11b0 : decide (x7_2 < (l0_0.length : Int)) = true := decide_eq_true c11
         clear c11
         replace H := bn H
         obtain ⟨⟨t707, t708, t709, t710, t711⟩, A12, H⟩ := H
         try dsimp only at H
         have H' := Aside0.mk H
         clear H
         obtain ⟨z13_0, z13_1⟩ := ca2 BK699
         obtain ⟨f13_0, f13_1⟩ := fa2 BK699
         have p706 : 0 ≤ (x7_2 : Int) := of_decide_eq_true as_
         have q706 : x7_2 < (l0_0.length : Int) := of_decide_eq_true as_
         obtain ⟨ad706, e706, hx706_0⟩ := Kd.at_int HR0_0.out x7_2 p706 q706
         cases e706
         replace hx706_0 := cl HB hx706_0
         replace p706 := eq_true p706
         replace q706 := eq_true q706
         go_wp2_with (first | ((with_reducible refine gf 66 ?_); refine gc Tryd.func66 (some 44) (spec_CtlRead.calls _ _ _ _ _ _ _ _ A12.out) ?_; rintro e w14 ⟨rfl, hb⟩; refine ⟨_, rfl, ?_⟩; replace HO_5 := Aside0.mk (Kd.R_below (ro HO_5) hb); replace BK699 := b_ BK699 hb; replace HB := hs hb; try clear hb) | ((with_reducible refine gd 8 ?_); refine bx 8 91 #[.int .i64 0, .int .i64 0, .int .u32 0, .int .i64 0] ?_; clear HB; intro gb712 w15 hg BK712 hb GE712 HB; replace HO_5 := Aside0.mk (Kd.R_below (ro HO_5) hb); have NB699_712 := nl BK699 hg; have NB712_699 := ng BK699 hg; replace BK699 := b_ BK699 hb; clear hb hg; have hnb16 := NB712_699.out; have hnc16 := NB699_712.out; obtain ⟨z17_0, z17_1, z17_2, z17_3⟩ := ca4 BK712; obtain ⟨f17_0, f17_1, f17_2, f17_3⟩ := fa4 BK712))
         go_loopg [10] k2 (fun kq v10 w' => ∃ (x5_3 : List Int) (x10_3 : Int), v10 = .int .i64 x10_3 ∧ Aside0 (spec_l08Owners.l2 kq (l0_0.length : Int) x5_3 x7_2 x10_3 l0_0 l0_1 t707 t708 t709 t710 = some (r1, r2)) ∧ Aside0 (kq ≤ k2) ∧ Aside0 (Kd.R (Kd.int .i64) 3 w' w.heap.size (fun _ => True) u5 x5_3) ∧ Aside0 (w'.heap[gb699]? = some (.cells #[(.slice (some ad706) l0_0.length c0_0), (.slice A0_1 l0_1.length c0_1)] 56 (0, 0))) ∧ Aside0 (w'.heap[gb712]? = some (.cells #[.int .i64 t707, .int .i64 t708, .int .u32 t709, .int .i64 t710] 91 (0, 0))) ∧ Aside0 (Below w.heap.size w w'))
         case atStart => exact ⟨(x5_2), (0), ev, H', ⟨Nat.le_refl _⟩, ⟨by (with_reducible repeat (first | apply Kd.R_alloc | apply Kd.R_drewN | apply Kd.R_drew)); exact Kd.R_mono (Kd.R_far (p := ⟨gb712, 3, none⟩) (Kd.R_far (p := ⟨gb712, 2, none⟩) (Kd.R_far (p := ⟨gb712, 1, none⟩) (Kd.R_far (p := ⟨gb712, 0, none⟩) (Kd.R_types HO_5.out BK712.out (by decide)) (fun _ hk => hk.2) (.int .i64 t707)) (fun _ hk => hk.2) (.int .i64 t708)) (fun _ hk => hk.2) (.int .u32 t709)) (fun _ hk => hk.2) (.int .i64 t710)) (fun _ hk => trivial)⟩, ⟨bk BK699⟩, ⟨bp BK712⟩, ⟨bw⟩⟩
         case round =>
          clear H'
          try clear c6
          try clear c6b0
          try clear c9
          try clear c9b0
          try clear c10
          try clear c10b0
          try clear c11
          try clear c11b0
          (try clear z13_0 z13_1)
          (try clear z17_0 z17_1 z17_2 z17_3)
          (try clear z3_0 z3_1)
          (try clear f13_0 f13_1)
          (try clear f17_0 f17_1 f17_2 f17_3)
          (try clear f3_0 f3_1)
          try clear hx706_0
          try clear p706
          try clear q706
          obtain ⟨x5_3, x10_3, rfl, HA, HK3, HO_5, BK699, BK712, HB⟩ := hrel
          cases gk with
          | zero => exact absurd HA.out (by simp [spec_l08Owners.l2])
          | succ k3 =>
           have H := HA.out
           clear HA
           simp only [spec_l08Owners.l2] at H
           replace H := ilt H
           rcases H with ⟨c18b0, H⟩ | ⟨c18b0, H⟩
           ·replace H := ige H
            rcases H with ⟨c19b0, H⟩ | ⟨c19b0, H⟩
            ·simp only [Option.some.injEq, Prod.mk.injEq] at H
             obtain ⟨rfl, rfl⟩ := H
             have hnb20 := NB712_699.out
             have hnc20 := NB699_712.out
             obtain ⟨z21_0, z21_1, z21_2, z21_3⟩ := ca4 BK712
             obtain ⟨f21_0, f21_1, f21_2, f21_3⟩ := fa4 BK712
             go_wp2
             go_ret2
             exact ⟨_, rt, by first | exact Kd.R_nil _ _ _ _ _ | exact Kd.N_nil _ _ _ _ _ | exact Kd.V_nil _ _ _ _ _ | exact Kd.Q_nil _ _ _ _ _ | exact Kd.S_nil _ _ _ _ _, bw⟩
            ·obtain ⟨ji22, hji22⟩ : ∃ j_ : Int, (wrap64 (x7_2 + x10_3)) = j_ := ⟨_, rfl⟩
             first | rw [hji22] at H | simp only [hji22] at H
             (try rw [hji22] at c19b0)
             have hji22w : (IntKind.i64.wrap (x7_2 + x10_3)) = ji22 := (i64_w _).trans hji22
             by_cases c23 : 0 ≤ (ji22)
             ·rw [if_pos c23] at H
              have c23b0 : decide (0 ≤ (ji22)) = true := decide_eq_true c23
              clear c23
              by_cases c24 : (ji22) < (x5_3.length : Int)
              ·rw [if_pos c24] at H
               have c24b0 : decide ((ji22) < (x5_3.length : Int)) = true := decide_eq_true c24
               clear c24
               replace H := ieq H
               rcases H with ⟨c25b0, c25b1, H⟩ | ⟨c25, c25b0, c25b1, H⟩
               ·obtain ⟨y714, hy714⟩ : ∃ y_ : List Int, y_ = (x5_3.set ((ji22) : Int).toNat (-2)) := ⟨_, rfl⟩
                rw [← hy714] at H
                try with_reducible replace H := bs H
                have Ny714 := Aside0.mk hy714
                clear hy714
                have H' := Aside0.mk H
                clear H
                have hnb27 := NB712_699.out
                have hnc27 := NB699_712.out
                obtain ⟨z28_0, z28_1, z28_2, z28_3⟩ := ca4 BK712
                obtain ⟨f28_0, f28_1, f28_2, f28_3⟩ := fa4 BK712
                obtain ⟨Ao29, co29, eo29⟩ := Kd.R_slice HO_5.out
                subst eo29
                have p713 : 0 ≤ ((ji22) : Int) := of_decide_eq_true as_
                have q713 : (ji22) < (x5_3.length : Int) := of_decide_eq_true as_
                obtain ⟨ad713, e713, hx713_0⟩ := Kd.at_int (Kd.R_reads' HO_5.out).2.2 (ji22) p713 q713
                cases e713
                replace p713 := eq_true p713
                replace q713 := eq_true q713
                have p26 : 0 ≤ ((ji22) : Int) := of_decide_eq_true as_
                have q26 : ((ji22) : Int) < ((x5_3.length : Int) : Int) := of_decide_eq_true as_
                obtain ⟨go26, co26, eo26, gb26, gl26, cl26, HG26⟩ := Kd.R_form HO_5.out (by omega)
                (first | cases eo26 | (injection eo26 with ea_ en_ ec_; (first | subst ea_ | (injection ea_ with ea_; subst ea_)); subst ec_; clear en_))
                have GB26 := Aside0.mk gb26
                have GG26 := Aside0.mk HG26
                clear gb26 gl26 HG26
                (first | simp only [add_plain] at hx713_0 | skip)
                obtain ⟨hx26_0, hf26_0⟩ := Kd.R_celln 0 HO_5.out ((ji22) : Int) p26 q26
                replace p26 := eq_true p26
                replace q26 := eq_true q26
                have HP30 := Kd.R_putg HO_5.out ((ji22) : Int) (-2)
                go_wp2_with (first | ((with_reducible refine gate_store (t := 3) (p := 71) rfl ?_); refine store_event (t := 3) (p := 71) (v := ?vo_w31) (w1 := (wr.setCell ⟨go26, ((ji22) : Int).toNat, none⟩ (.int .i64 (-2)))) ?hg ?ho ?hn ?hr ?_; (case ho => rfl); (case hg => rfl); (case hn => rfl); (case hr => first | (go_simp; done) | (go_simp; rfl)); intro w31 hw; have hg : wr.grownBy w31 (some go26) := (by rw [hw]; exact HP30.2); have hp_ : Kd.R (Kd.int .i64) 3 w31 w.heap.size (fun _ => True) (.slice (some ⟨go26, 0, none⟩) x5_3.length co29) y714 := (by rw [hw, Ny714.out]; exact HP30.1); clear HP30; replace BK699 := bg BK699 hg (Kd.R_ne HO_5.out BK699.out (by decide)); replace BK712 := bg BK712 hg (Kd.R_ne HO_5.out BK712.out (by decide)); replace HO_5 := Aside0.mk (hp_); replace HB := Aside0.mk ((by rw [hw]; exact below_set (HB.out) GB26.out : Below w.heap.size w w31)); clear hg hw hp_))
                go_roundg k3
                case measure => have := HK1.out; have := HK2.out; have := HK3.out; omega
                case rel => exact ⟨(y714), (wrap64 (x10_3 + 1)), ev, H', ⟨by have := HK1.out; have := HK2.out; have := HK3.out; omega⟩, ⟨ro HO_5⟩, ⟨bk BK699⟩, ⟨bk BK712⟩, ⟨bw⟩⟩
               ·simp only [Option.some.injEq, Prod.mk.injEq] at H
                obtain ⟨rfl, rfl⟩ := H
                have hnb32 := NB712_699.out
                have hnc32 := NB699_712.out
                obtain ⟨z33_0, z33_1, z33_2, z33_3⟩ := ca4 BK712
                obtain ⟨f33_0, f33_1, f33_2, f33_3⟩ := fa4 BK712
                obtain ⟨Ao34, co34, eo34⟩ := Kd.R_slice HO_5.out
                subst eo34
                have p713 : 0 ≤ ((ji22) : Int) := of_decide_eq_true as_
                have q713 : (ji22) < (x5_3.length : Int) := of_decide_eq_true as_
                obtain ⟨ad713, e713, hx713_0⟩ := Kd.at_int (Kd.R_reads' HO_5.out).2.2 (ji22) p713 q713
                cases e713
                replace p713 := eq_true p713
                replace q713 := eq_true q713
                go_wp2
                go_ret2
                exact ⟨_, by first | exact rt1 | (simp only [← hji22]; exact rt1) | exact rt, by first | exact Kd.R_nil _ _ _ _ _ | exact Kd.N_nil _ _ _ _ _ | exact Kd.V_nil _ _ _ _ _ | exact Kd.Q_nil _ _ _ _ _ | exact Kd.S_nil _ _ _ _ _, bw⟩
              ·rw [if_neg c24] at H
               exact absurd H (by simp)
             ·rw [if_neg c23] at H
              exact absurd H (by simp)
           ·have H' := Aside0.mk H
            clear H
            have hnb35 := NB712_699.out
            have hnc35 := NB699_712.out
            obtain ⟨z36_0, z36_1, z36_2, z36_3⟩ := ca4 BK712
            obtain ⟨f36_0, f36_1, f36_2, f36_3⟩ := fa4 BK712
            go_wp2
            go_roundg k3
            case measure => have := HK1.out; have := HK2.out; have := HK3.out; omega
            case rel => exact ⟨(x5_3), (wrap64 (x7_2 + 1)), ev, H', ⟨by have := HK1.out; have := HK2.out; have := HK3.out; omega⟩, ⟨ro HO_5⟩, ⟨bk BK699⟩, ⟨bw⟩⟩
        ·rw [if_neg c11] at H
         exact absurd H (by simp)
       ·rw [if_neg c10] at H
        exact absurd H (by simp)
      ·have H' := Aside0.mk H
       clear H
       go_wp2
       go_loopg [11] k2 (fun kq v11 w' => ∃ (x5_3 : List Int) (x11_3 : Int), v11 = .int .i64 x11_3 ∧ Aside0 (spec_l08Owners.l3 kq (l0_0.length : Int) x5_3 x11_3 l0_0 l0_1 = some (r1, r2)) ∧ Aside0 (kq ≤ k2) ∧ Aside0 (Kd.R (Kd.int .i64) 3 w' w.heap.size (fun _ => True) u5 x5_3) ∧ Aside0 (w'.heap[gb699]? = some (.cells #[(.slice A0_0 l0_0.length c0_0), (.slice A0_1 l0_1.length c0_1)] 56 (0, 0))) ∧ Aside0 (Below w.heap.size w w'))
       case atStart => exact ⟨(x5_2), (0), ev, H', ⟨Nat.le_refl _⟩, ⟨ro HO_5⟩, ⟨bk BK699⟩, ⟨bw⟩⟩
       case round =>
        clear H'
        try clear c6
        try clear c6b0
        try clear c9
        try clear c9b0
        (try clear z3_0 z3_1)
        (try clear f3_0 f3_1)
        obtain ⟨x5_3, x11_3, rfl, HA, HK3, HO_5, BK699, HB⟩ := hrel
        cases gk with
        | zero => exact absurd HA.out (by simp [spec_l08Owners.l3])
        | succ k3 =>
         have H := HA.out
         clear HA
         simp only [spec_l08Owners.l3] at H
         replace H := ilt H
         rcases H with ⟨c37b0, H⟩ | ⟨c37b0, H⟩
         ·have H' := Aside0.mk H
          clear H
          obtain ⟨z38_0, z38_1⟩ := ca2 BK699
          obtain ⟨f38_0, f38_1⟩ := fa2 BK699
          go_wp2
          go_loopg [12] k3 (fun kq v12 w' => ∃ (x5_4 : List Int) (x12_4 : Int), v12 = .int .i64 x12_4 ∧ Aside0 (spec_l08Owners.l4 kq (l0_0.length : Int) x5_4 x11_3 x12_4 l0_0 l0_1 = some (r1, r2)) ∧ Aside0 (kq ≤ k3) ∧ Aside0 (Kd.R (Kd.int .i64) 3 w' w.heap.size (fun _ => True) u5 x5_4) ∧ Aside0 (w'.heap[gb699]? = some (.cells #[(.slice A0_0 l0_0.length c0_0), (.slice A0_1 l0_1.length c0_1)] 56 (0, 0))) ∧ Aside0 (Below w.heap.size w w'))
          case atStart => exact ⟨(x5_3), (0), ev, H', ⟨Nat.le_refl _⟩, ⟨ro HO_5⟩, ⟨bk BK699⟩, ⟨bw⟩⟩
          case round =>
           clear H'
           try clear c6
           try clear c6b0
           try clear c9
           try clear c9b0
           try clear c37
           try clear c37b0
           (try clear z38_0 z38_1)
           (try clear z3_0 z3_1)
           (try clear f38_0 f38_1)
           (try clear f3_0 f3_1)
           obtain ⟨x5_4, x12_4, rfl, HA, HK4, HO_5, BK699, HB⟩ := hrel
           cases gk with
           | zero => exact absurd HA.out (by simp [spec_l08Owners.l4])
           | succ k4 =>
            have H := HA.out
            clear HA
            simp only [spec_l08Owners.l4] at H
            by_cases c39 : 0 ≤ x11_3
            ·rw [if_pos c39] at H
             have c39b0 : decide (0 ≤ x11_3) = true := decide_eq_true c39
             clear c39
             by_cases c40 : x11_3 < (l0_1.length : Int)
             ·rw [if_pos c40] at H
              have c40b0 : decide (x11_3 < (l0_1.length : Int)) = true := decide_eq_true c40
              clear c40
              replace H := ilt H
              rcases H with ⟨c41b0, H⟩ | ⟨c41b0, H⟩
              ·replace H := ige H
               rcases H with ⟨c42b0, H⟩ | ⟨c42b0, H⟩
               ·simp only [Option.some.injEq, Prod.mk.injEq] at H
                obtain ⟨rfl, rfl⟩ := H
                obtain ⟨z43_0, z43_1⟩ := ca2 BK699
                obtain ⟨f43_0, f43_1⟩ := fa2 BK699
                have p715 : 0 ≤ (x11_3 : Int) := of_decide_eq_true as_
                have q715 : x11_3 < (l0_1.length : Int) := of_decide_eq_true as_
                obtain ⟨ad715, A715_1, c715_1, A715_2, c715_2, e715, hx715_0, hx715_1, hx715_2, hx715_3, hx715_4, hx715_5, hx715_6, hx715_7, hl715_1, hi715_1, hl715_2, hi715_2⟩ := at_T28 HR0_1.out x11_3 p715 q715
                cases e715
                replace hx715_0 := cl HB hx715_0
                replace hx715_1 := cl HB hx715_1
                replace hx715_2 := cl HB hx715_2
                replace hx715_3 := cl HB hx715_3
                replace hx715_4 := cl HB hx715_4
                replace hx715_5 := cl HB hx715_5
                replace hx715_6 := cl HB hx715_6
                replace hx715_7 := cl HB hx715_7
                have HR715_1 := Aside0.mk hi715_1
                have HC715_1 := Aside0.mk hl715_1
                clear hi715_1 hl715_1
                have HR715_2 := Aside0.mk hi715_2
                have HC715_2 := Aside0.mk hl715_2
                clear hi715_2 hl715_2
                replace p715 := eq_true p715
                replace q715 := eq_true q715
                have p716 : 0 ≤ (x11_3 : Int) := of_decide_eq_true as_
                have q716 : x11_3 < (l0_1.length : Int) := of_decide_eq_true as_
                obtain ⟨ad716, A716_1, c716_1, A716_2, c716_2, e716, hx716_0, hx716_1, hx716_2, hx716_3, hx716_4, hx716_5, hx716_6, hx716_7, hl716_1, hi716_1, hl716_2, hi716_2⟩ := at_T28 HR0_1.out x11_3 p716 q716
                obtain rfl : ad715 = ad716 := (by injection e716)
                replace hx716_0 := cl HB hx716_0
                replace hx716_1 := cl HB hx716_1
                replace hx716_2 := cl HB hx716_2
                replace hx716_3 := cl HB hx716_3
                replace hx716_4 := cl HB hx716_4
                replace hx716_5 := cl HB hx716_5
                replace hx716_6 := cl HB hx716_6
                replace hx716_7 := cl HB hx716_7
                have HR716_1 := Aside0.mk hi716_1
                have HC716_1 := Aside0.mk hl716_1
                clear hi716_1 hl716_1
                have HR716_2 := Aside0.mk hi716_2
                have HC716_2 := Aside0.mk hl716_2
                clear hi716_2 hl716_2
                replace p716 := eq_true p716
                replace q716 := eq_true q716
                have ea_ := Option.some.inj (hx715_1.symm.trans hx716_1)
                injection ea_ with ea_ en_ ec_
                subst ea_
                subst ec_
                clear en_
                have ea_ := Option.some.inj (hx715_2.symm.trans hx716_2)
                injection ea_ with ea_ en_ ec_
                subst ea_
                subst ec_
                clear en_
                go_wp2
                go_ret2
                exact ⟨_, rt, by first | exact Kd.R_nil _ _ _ _ _ | exact Kd.N_nil _ _ _ _ _ | exact Kd.V_nil _ _ _ _ _ | exact Kd.Q_nil _ _ _ _ _ | exact Kd.S_nil _ _ _ _ _, bw⟩
               ·obtain ⟨ji44, hji44⟩ : ∃ j_ : Int, (wrap64 (((rd_T28 l0_1 x11_3).f5) + x12_4)) = j_ := ⟨_, rfl⟩
                first | rw [hji44] at H | simp only [hji44] at H
                (try rw [hji44] at c42b0)
                have hji44w : (IntKind.i64.wrap (((rd_T28 l0_1 x11_3).f5) + x12_4)) = ji44 := (i64_w _).trans hji44
                by_cases c45 : 0 ≤ (ji44)
                ·rw [if_pos c45] at H
                 have c45b0 : decide (0 ≤ (ji44)) = true := decide_eq_true c45
                 clear c45
                 by_cases c46 : (ji44) < (x5_4.length : Int)
                 ·rw [if_pos c46] at H
                  have c46b0 : decide ((ji44) < (x5_4.length : Int)) = true := decide_eq_true c46
                  clear c46
                  replace H := ieq H
                  rcases H with ⟨c47b0, c47b1, H⟩ | ⟨c47, c47b0, c47b1, H⟩
                  ·obtain ⟨y718, hy718⟩ : ∃ y_ : List Int, y_ = (x5_4.set ((ji44) : Int).toNat x11_3) := ⟨_, rfl⟩
                   rw [← hy718] at H
                   try with_reducible replace H := bs H
                   have Ny718 := Aside0.mk hy718
                   clear hy718
                   have H' := Aside0.mk H
                   clear H
                   obtain ⟨z49_0, z49_1⟩ := ca2 BK699
                   obtain ⟨f49_0, f49_1⟩ := fa2 BK699
                   have p715 : 0 ≤ (x11_3 : Int) := of_decide_eq_true as_
                   have q715 : x11_3 < (l0_1.length : Int) := of_decide_eq_true as_
                   obtain ⟨ad715, A715_1, c715_1, A715_2, c715_2, e715, hx715_0, hx715_1, hx715_2, hx715_3, hx715_4, hx715_5, hx715_6, hx715_7, hl715_1, hi715_1, hl715_2, hi715_2⟩ := at_T28 HR0_1.out x11_3 p715 q715
                   cases e715
                   replace hx715_0 := cl HB hx715_0
                   replace hx715_1 := cl HB hx715_1
                   replace hx715_2 := cl HB hx715_2
                   replace hx715_3 := cl HB hx715_3
                   replace hx715_4 := cl HB hx715_4
                   replace hx715_5 := cl HB hx715_5
                   replace hx715_6 := cl HB hx715_6
                   replace hx715_7 := cl HB hx715_7
                   have HR715_1 := Aside0.mk hi715_1
                   have HC715_1 := Aside0.mk hl715_1
                   clear hi715_1 hl715_1
                   have HR715_2 := Aside0.mk hi715_2
                   have HC715_2 := Aside0.mk hl715_2
                   clear hi715_2 hl715_2
                   replace p715 := eq_true p715
                   replace q715 := eq_true q715
                   have p716 : 0 ≤ (x11_3 : Int) := of_decide_eq_true as_
                   have q716 : x11_3 < (l0_1.length : Int) := of_decide_eq_true as_
                   obtain ⟨ad716, A716_1, c716_1, A716_2, c716_2, e716, hx716_0, hx716_1, hx716_2, hx716_3, hx716_4, hx716_5, hx716_6, hx716_7, hl716_1, hi716_1, hl716_2, hi716_2⟩ := at_T28 HR0_1.out x11_3 p716 q716
                   obtain rfl : ad715 = ad716 := (by injection e716)
                   replace hx716_0 := cl HB hx716_0
                   replace hx716_1 := cl HB hx716_1
                   replace hx716_2 := cl HB hx716_2
                   replace hx716_3 := cl HB hx716_3
                   replace hx716_4 := cl HB hx716_4
                   replace hx716_5 := cl HB hx716_5
                   replace hx716_6 := cl HB hx716_6
                   replace hx716_7 := cl HB hx716_7
                   have HR716_1 := Aside0.mk hi716_1
                   have HC716_1 := Aside0.mk hl716_1
                   clear hi716_1 hl716_1
                   have HR716_2 := Aside0.mk hi716_2
                   have HC716_2 := Aside0.mk hl716_2
                   clear hi716_2 hl716_2
                   replace p716 := eq_true p716
                   replace q716 := eq_true q716
                   have ea_ := Option.some.inj (hx715_1.symm.trans hx716_1)
                   injection ea_ with ea_ en_ ec_
                   subst ea_
                   subst ec_
                   clear en_
                   have ea_ := Option.some.inj (hx715_2.symm.trans hx716_2)
                   injection ea_ with ea_ en_ ec_
                   subst ea_
                   subst ec_
                   clear en_
                   obtain ⟨Ao50, co50, eo50⟩ := Kd.R_slice HO_5.out
                   subst eo50
                   have p717 : 0 ≤ ((ji44) : Int) := of_decide_eq_true as_
                   have q717 : (ji44) < (x5_4.length : Int) := of_decide_eq_true as_
                   obtain ⟨ad717, e717, hx717_0⟩ := Kd.at_int (Kd.R_reads' HO_5.out).2.2 (ji44) p717 q717
                   cases e717
                   replace p717 := eq_true p717
                   replace q717 := eq_true q717
                   have p48 : 0 ≤ ((ji44) : Int) := of_decide_eq_true as_
                   have q48 : ((ji44) : Int) < ((x5_4.length : Int) : Int) := of_decide_eq_true as_
                   obtain ⟨go48, co48, eo48, gb48, gl48, cl48, HG48⟩ := Kd.R_form HO_5.out (by omega)
                   (first | cases eo48 | (injection eo48 with ea_ en_ ec_; (first | subst ea_ | (injection ea_ with ea_; subst ea_)); subst ec_; clear en_))
                   have GB48 := Aside0.mk gb48
                   have GG48 := Aside0.mk HG48
                   clear gb48 gl48 HG48
                   (first | simp only [add_plain] at hx717_0 | skip)
                   obtain ⟨hx48_0, hf48_0⟩ := Kd.R_celln 0 HO_5.out ((ji44) : Int) p48 q48
                   replace p48 := eq_true p48
                   replace q48 := eq_true q48
                   have HP51 := Kd.R_putg HO_5.out ((ji44) : Int) x11_3
                   go_wp2_with (first | ((with_reducible refine gate_store (t := 3) (p := 110) rfl ?_); refine store_event (t := 3) (p := 110) (v := ?vo_w52) (w1 := (wr.setCell ⟨go48, ((ji44) : Int).toNat, none⟩ (.int .i64 x11_3))) ?hg ?ho ?hn ?hr ?_; (case ho => rfl); (case hg => rfl); (case hn => rfl); (case hr => first | (go_simp; done) | (go_simp; rfl)); intro w52 hw; have hg : wr.grownBy w52 (some go48) := (by rw [hw]; exact HP51.2); have hp_ : Kd.R (Kd.int .i64) 3 w52 w.heap.size (fun _ => True) (.slice (some ⟨go48, 0, none⟩) x5_4.length co50) y718 := (by rw [hw, Ny718.out]; exact HP51.1); clear HP51; replace BK699 := bg BK699 hg (Kd.R_ne HO_5.out BK699.out (by decide)); replace HO_5 := Aside0.mk (hp_); replace HB := Aside0.mk ((by rw [hw]; exact below_set (HB.out) GB48.out : Below w.heap.size w w52)); clear hg hw hp_))
                   go_roundg k4
                   case measure => have := HK1.out; have := HK2.out; have := HK3.out; have := HK4.out; omega
                   case rel => exact ⟨(y718), (wrap64 (x12_4 + 1)), ev, H', ⟨by have := HK1.out; have := HK2.out; have := HK3.out; have := HK4.out; omega⟩, ⟨ro HO_5⟩, ⟨bk BK699⟩, ⟨bw⟩⟩
                  ·simp only [Option.some.injEq, Prod.mk.injEq] at H
                   obtain ⟨rfl, rfl⟩ := H
                   obtain ⟨z53_0, z53_1⟩ := ca2 BK699
                   obtain ⟨f53_0, f53_1⟩ := fa2 BK699
                   have p715 : 0 ≤ (x11_3 : Int) := of_decide_eq_true as_
                   have q715 : x11_3 < (l0_1.length : Int) := of_decide_eq_true as_
                   obtain ⟨ad715, A715_1, c715_1, A715_2, c715_2, e715, hx715_0, hx715_1, hx715_2, hx715_3, hx715_4, hx715_5, hx715_6, hx715_7, hl715_1, hi715_1, hl715_2, hi715_2⟩ := at_T28 HR0_1.out x11_3 p715 q715
                   cases e715
                   replace hx715_0 := cl HB hx715_0
                   replace hx715_1 := cl HB hx715_1
                   replace hx715_2 := cl HB hx715_2
                   replace hx715_3 := cl HB hx715_3
                   replace hx715_4 := cl HB hx715_4
                   replace hx715_5 := cl HB hx715_5
                   replace hx715_6 := cl HB hx715_6
                   replace hx715_7 := cl HB hx715_7
                   have HR715_1 := Aside0.mk hi715_1
                   have HC715_1 := Aside0.mk hl715_1
                   clear hi715_1 hl715_1
                   have HR715_2 := Aside0.mk hi715_2
                   have HC715_2 := Aside0.mk hl715_2
                   clear hi715_2 hl715_2
                   replace p715 := eq_true p715
                   replace q715 := eq_true q715
                   have p716 : 0 ≤ (x11_3 : Int) := of_decide_eq_true as_
                   have q716 : x11_3 < (l0_1.length : Int) := of_decide_eq_true as_
                   obtain ⟨ad716, A716_1, c716_1, A716_2, c716_2, e716, hx716_0, hx716_1, hx716_2, hx716_3, hx716_4, hx716_5, hx716_6, hx716_7, hl716_1, hi716_1, hl716_2, hi716_2⟩ := at_T28 HR0_1.out x11_3 p716 q716
                   obtain rfl : ad715 = ad716 := (by injection e716)
                   replace hx716_0 := cl HB hx716_0
                   replace hx716_1 := cl HB hx716_1
                   replace hx716_2 := cl HB hx716_2
                   replace hx716_3 := cl HB hx716_3
                   replace hx716_4 := cl HB hx716_4
                   replace hx716_5 := cl HB hx716_5
                   replace hx716_6 := cl HB hx716_6
                   replace hx716_7 := cl HB hx716_7
                   have HR716_1 := Aside0.mk hi716_1
                   have HC716_1 := Aside0.mk hl716_1
                   clear hi716_1 hl716_1
                   have HR716_2 := Aside0.mk hi716_2
                   have HC716_2 := Aside0.mk hl716_2
                   clear hi716_2 hl716_2
                   replace p716 := eq_true p716
                   replace q716 := eq_true q716
                   have ea_ := Option.some.inj (hx715_1.symm.trans hx716_1)
                   injection ea_ with ea_ en_ ec_
                   subst ea_
                   subst ec_
                   clear en_
                   have ea_ := Option.some.inj (hx715_2.symm.trans hx716_2)
                   injection ea_ with ea_ en_ ec_
                   subst ea_
                   subst ec_
                   clear en_
                   obtain ⟨Ao54, co54, eo54⟩ := Kd.R_slice HO_5.out
                   subst eo54
                   have p717 : 0 ≤ ((ji44) : Int) := of_decide_eq_true as_
                   have q717 : (ji44) < (x5_4.length : Int) := of_decide_eq_true as_
                   obtain ⟨ad717, e717, hx717_0⟩ := Kd.at_int (Kd.R_reads' HO_5.out).2.2 (ji44) p717 q717
                   cases e717
                   replace p717 := eq_true p717
                   replace q717 := eq_true q717
                   go_wp2
                   go_ret2
                   exact ⟨_, by first | exact rt1 | (simp only [← hji44]; exact rt1) | exact rt, by first | exact Kd.R_nil _ _ _ _ _ | exact Kd.N_nil _ _ _ _ _ | exact Kd.V_nil _ _ _ _ _ | exact Kd.Q_nil _ _ _ _ _ | exact Kd.S_nil _ _ _ _ _, bw⟩
                 ·rw [if_neg c46] at H
                  exact absurd H (by simp)
                ·rw [if_neg c45] at H
                 exact absurd H (by simp)
              ·have H' := Aside0.mk H
               clear H
               obtain ⟨z55_0, z55_1⟩ := ca2 BK699
               obtain ⟨f55_0, f55_1⟩ := fa2 BK699
               have p715 : 0 ≤ (x11_3 : Int) := of_decide_eq_true as_
               have q715 : x11_3 < (l0_1.length : Int) := of_decide_eq_true as_
               obtain ⟨ad715, A715_1, c715_1, A715_2, c715_2, e715, hx715_0, hx715_1, hx715_2, hx715_3, hx715_4, hx715_5, hx715_6, hx715_7, hl715_1, hi715_1, hl715_2, hi715_2⟩ := at_T28 HR0_1.out x11_3 p715 q715
               cases e715
               replace hx715_0 := cl HB hx715_0
               replace hx715_1 := cl HB hx715_1
               replace hx715_2 := cl HB hx715_2
               replace hx715_3 := cl HB hx715_3
               replace hx715_4 := cl HB hx715_4
               replace hx715_5 := cl HB hx715_5
               replace hx715_6 := cl HB hx715_6
               replace hx715_7 := cl HB hx715_7
               have HR715_1 := Aside0.mk hi715_1
               have HC715_1 := Aside0.mk hl715_1
               clear hi715_1 hl715_1
               have HR715_2 := Aside0.mk hi715_2
               have HC715_2 := Aside0.mk hl715_2
               clear hi715_2 hl715_2
               replace p715 := eq_true p715
               replace q715 := eq_true q715
               go_wp2
               go_roundg k4
               case measure => have := HK1.out; have := HK2.out; have := HK3.out; have := HK4.out; omega
               case rel => exact ⟨(x5_4), (wrap64 (x11_3 + 1)), ev, H', ⟨by have := HK1.out; have := HK2.out; have := HK3.out; have := HK4.out; omega⟩, ⟨ro HO_5⟩, ⟨bk BK699⟩, ⟨bw⟩⟩
             ·rw [if_neg c40] at H
              exact absurd H (by simp)
            ·rw [if_neg c39] at H
             exact absurd H (by simp)
         ·have H' := Aside0.mk H
          clear H
          obtain ⟨z56_0, z56_1⟩ := ca2 BK699
          obtain ⟨f56_0, f56_1⟩ := fa2 BK699
          go_wp2
          go_loopg [14] k3 (fun kq v14 w' => ∃ (x14_4 : Int), v14 = .int .i64 x14_4 ∧ Aside0 (spec_l08Owners.l5 kq (l0_0.length : Int) x5_3 x14_4 l0_0 l0_1 = some (r1, r2)) ∧ Aside0 (kq ≤ k3) ∧ Aside0 (Kd.R (Kd.int .i64) 3 w' w.heap.size (fun _ => True) u5 x5_3) ∧ Aside0 (w'.heap[gb699]? = some (.cells #[(.slice A0_0 l0_0.length c0_0), (.slice A0_1 l0_1.length c0_1)] 56 (0, 0))) ∧ Aside0 (Below w.heap.size w w'))
          case atStart => exact ⟨(0), ev, H', ⟨Nat.le_refl _⟩, ⟨ro HO_5⟩, ⟨bk BK699⟩, ⟨bw⟩⟩
          case round =>
           clear H'
           try clear c6
           try clear c6b0
           try clear c9
           try clear c9b0
           try clear c37
           try clear c37b0
           (try clear z3_0 z3_1)
           (try clear z56_0 z56_1)
           (try clear f3_0 f3_1)
           (try clear f56_0 f56_1)
           obtain ⟨x14_4, rfl, HA, HK4, HO_5, BK699, HB⟩ := hrel
           cases gk with
           | zero => exact absurd HA.out (by simp [spec_l08Owners.l5])
           | succ k4 =>
            have H := HA.out
            clear HA
            simp only [spec_l08Owners.l5] at H
            replace H := ilt H
            rcases H with ⟨c57b0, H⟩ | ⟨c57b0, H⟩
            ·by_cases c58 : 0 ≤ x14_4
             ·rw [if_pos c58] at H
              have c58b0 : decide (0 ≤ x14_4) = true := decide_eq_true c58
              clear c58
              by_cases c59 : x14_4 < (l0_0.length : Int)
              ·rw [if_pos c59] at H
               have c59b0 : decide (x14_4 < (l0_0.length : Int)) = true := decide_eq_true c59
               clear c59
               replace H := bn H
               obtain ⟨⟨t720, t721, t722, t723, t724⟩, A60, H⟩ := H
               try dsimp only at H
               by_cases c61 : x14_4 < (x5_3.length : Int)
               ·rw [if_pos c61] at H
                have c61b0 : decide (x14_4 < (x5_3.length : Int)) = true := decide_eq_true c61
                clear c61
                replace H := ieq H
                rcases H with ⟨c62b0, c62b1, H⟩ | ⟨c62, c62b0, c62b1, H⟩
                ·replace H := ieq H
                 rcases H with ⟨c63b0, c63b1, H⟩ | ⟨c63, c63b0, c63b1, H⟩
                 ·simp only [Option.some.injEq, Prod.mk.injEq] at H
                  obtain ⟨rfl, rfl⟩ := H
                  obtain ⟨z64_0, z64_1⟩ := ca2 BK699
                  obtain ⟨f64_0, f64_1⟩ := fa2 BK699
                  have p719 : 0 ≤ (x14_4 : Int) := of_decide_eq_true as_
                  have q719 : x14_4 < (l0_0.length : Int) := of_decide_eq_true as_
                  obtain ⟨ad719, e719, hx719_0⟩ := Kd.at_int HR0_0.out x14_4 p719 q719
                  cases e719
                  replace hx719_0 := cl HB hx719_0
                  replace p719 := eq_true p719
                  replace q719 := eq_true q719
                  go_wp2_with (first | ((with_reducible refine gf 66 ?_); refine gc Tryd.func66 (some 123) (spec_CtlRead.calls _ _ _ _ _ _ _ _ A60.out) ?_; rintro e w65 ⟨rfl, hb⟩; refine ⟨_, rfl, ?_⟩; replace HO_5 := Aside0.mk (Kd.R_below (ro HO_5) hb); replace BK699 := b_ BK699 hb; replace HB := hs hb; try clear hb) | ((with_reducible refine gd 15 ?_); refine bx 15 91 #[.int .i64 0, .int .i64 0, .int .u32 0, .int .i64 0] ?_; clear HB; intro gb725 w66 hg BK725 hb GE725 HB; replace HO_5 := Aside0.mk (Kd.R_below (ro HO_5) hb); have NB699_725 := nl BK699 hg; have NB725_699 := ng BK699 hg; replace BK699 := b_ BK699 hb; clear hb hg; have hnb67 := NB725_699.out; have hnc67 := NB699_725.out; obtain ⟨z68_0, z68_1, z68_2, z68_3⟩ := ca4 BK725; obtain ⟨f68_0, f68_1, f68_2, f68_3⟩ := fa4 BK725; obtain ⟨Ao69, co69, eo69⟩ := Kd.R_slice HO_5.out; subst eo69; have p726 : 0 ≤ (x14_4 : Int) := of_decide_eq_true as_; have q726 : x14_4 < (x5_3.length : Int) := of_decide_eq_true as_; obtain ⟨ad726, e726, hx726_0⟩ := Kd.at_int (Kd.R_reads' HO_5.out).2.2 x14_4 p726 q726; cases e726; have hn726_0 : ad726.block ≠ gb725 := Kd.own_blk (Kd.R_ne HO_5.out BK725.out (by decide)); have hn726_1 : ad726.block ≠ gb725 := Kd.own_blk (Kd.R_ne HO_5.out BK725.out (by decide)); have hn726_2 : ad726.block ≠ gb725 := Kd.own_blk (Kd.R_ne HO_5.out BK725.out (by decide)); have hn726_3 : ad726.block ≠ gb725 := Kd.own_blk (Kd.R_ne HO_5.out BK725.out (by decide)); replace hx726_0 := (cell_far (p := ⟨gb725, 0, none⟩) (ab hn726_0) (.int .i64 t720)).trans hx726_0; replace hx726_0 := (cell_far (p := ⟨gb725, 1, none⟩) (ab hn726_1) (.int .i64 t721)).trans hx726_0; replace hx726_0 := (cell_far (p := ⟨gb725, 2, none⟩) (ab hn726_2) (.int .u32 t722)).trans hx726_0; replace hx726_0 := (cell_far (p := ⟨gb725, 3, none⟩) (ab hn726_3) (.int .i64 t723)).trans hx726_0; clear hn726_0; clear hn726_1; clear hn726_2; clear hn726_3; replace p726 := eq_true p726; replace q726 := eq_true q726))
                  go_ret2
                  exact ⟨_, rt, by first | exact Kd.R_nil _ _ _ _ _ | exact Kd.N_nil _ _ _ _ _ | exact Kd.V_nil _ _ _ _ _ | exact Kd.Q_nil _ _ _ _ _ | exact Kd.S_nil _ _ _ _ _, bw⟩
                 ·replace H := ieq H
                  rcases H with ⟨c70b0, c70b1, H⟩ | ⟨c70, c70b0, c70b1, H⟩
                  ·simp only [Option.some.injEq, Prod.mk.injEq] at H
                   obtain ⟨rfl, rfl⟩ := H
                   obtain ⟨z71_0, z71_1⟩ := ca2 BK699
                   obtain ⟨f71_0, f71_1⟩ := fa2 BK699
                   have p719 : 0 ≤ (x14_4 : Int) := of_decide_eq_true as_
                   have q719 : x14_4 < (l0_0.length : Int) := of_decide_eq_true as_
                   obtain ⟨ad719, e719, hx719_0⟩ := Kd.at_int HR0_0.out x14_4 p719 q719
                   cases e719
                   replace hx719_0 := cl HB hx719_0
                   replace p719 := eq_true p719
                   replace q719 := eq_true q719
                   go_wp2_with (first | ((with_reducible refine gf 66 ?_); refine gc Tryd.func66 (some 123) (spec_CtlRead.calls _ _ _ _ _ _ _ _ A60.out) ?_; rintro e w72 ⟨rfl, hb⟩; refine ⟨_, rfl, ?_⟩; replace HO_5 := Aside0.mk (Kd.R_below (ro HO_5) hb); replace BK699 := b_ BK699 hb; replace HB := hs hb; try clear hb) | ((with_reducible refine gd 15 ?_); refine bx 15 91 #[.int .i64 0, .int .i64 0, .int .u32 0, .int .i64 0] ?_; clear HB; intro gb725 w73 hg BK725 hb GE725 HB; replace HO_5 := Aside0.mk (Kd.R_below (ro HO_5) hb); have NB699_725 := nl BK699 hg; have NB725_699 := ng BK699 hg; replace BK699 := b_ BK699 hb; clear hb hg; have hnb74 := NB725_699.out; have hnc74 := NB699_725.out; obtain ⟨z75_0, z75_1, z75_2, z75_3⟩ := ca4 BK725; obtain ⟨f75_0, f75_1, f75_2, f75_3⟩ := fa4 BK725; obtain ⟨Ao76, co76, eo76⟩ := Kd.R_slice HO_5.out; subst eo76; have p726 : 0 ≤ (x14_4 : Int) := of_decide_eq_true as_; have q726 : x14_4 < (x5_3.length : Int) := of_decide_eq_true as_; obtain ⟨ad726, e726, hx726_0⟩ := Kd.at_int (Kd.R_reads' HO_5.out).2.2 x14_4 p726 q726; cases e726; have hn726_0 : ad726.block ≠ gb725 := Kd.own_blk (Kd.R_ne HO_5.out BK725.out (by decide)); have hn726_1 : ad726.block ≠ gb725 := Kd.own_blk (Kd.R_ne HO_5.out BK725.out (by decide)); have hn726_2 : ad726.block ≠ gb725 := Kd.own_blk (Kd.R_ne HO_5.out BK725.out (by decide)); have hn726_3 : ad726.block ≠ gb725 := Kd.own_blk (Kd.R_ne HO_5.out BK725.out (by decide)); replace hx726_0 := (cell_far (p := ⟨gb725, 0, none⟩) (ab hn726_0) (.int .i64 t720)).trans hx726_0; replace hx726_0 := (cell_far (p := ⟨gb725, 1, none⟩) (ab hn726_1) (.int .i64 t721)).trans hx726_0; replace hx726_0 := (cell_far (p := ⟨gb725, 2, none⟩) (ab hn726_2) (.int .u32 t722)).trans hx726_0; replace hx726_0 := (cell_far (p := ⟨gb725, 3, none⟩) (ab hn726_3) (.int .i64 t723)).trans hx726_0; clear hn726_0; clear hn726_1; clear hn726_2; clear hn726_3; replace p726 := eq_true p726; replace q726 := eq_true q726))
                   go_ret2
                   exact ⟨_, rt, by first | exact Kd.R_nil _ _ _ _ _ | exact Kd.N_nil _ _ _ _ _ | exact Kd.V_nil _ _ _ _ _ | exact Kd.Q_nil _ _ _ _ _ | exact Kd.S_nil _ _ _ _ _, bw⟩
                  ·replace H := ige H
                   rcases H with ⟨c77b0, H⟩ | ⟨c77b0, H⟩
                   ·simp only [Option.some.injEq, Prod.mk.injEq] at H
                    obtain ⟨rfl, rfl⟩ := H
                    obtain ⟨z78_0, z78_1⟩ := ca2 BK699
                    obtain ⟨f78_0, f78_1⟩ := fa2 BK699
                    have p719 : 0 ≤ (x14_4 : Int) := of_decide_eq_true as_
                    have q719 : x14_4 < (l0_0.length : Int) := of_decide_eq_true as_
                    obtain ⟨ad719, e719, hx719_0⟩ := Kd.at_int HR0_0.out x14_4 p719 q719
                    cases e719
                    replace hx719_0 := cl HB hx719_0
                    replace p719 := eq_true p719
                    replace q719 := eq_true q719
                    go_wp2_with (first | ((with_reducible refine gf 66 ?_); refine gc Tryd.func66 (some 123) (spec_CtlRead.calls _ _ _ _ _ _ _ _ A60.out) ?_; rintro e w79 ⟨rfl, hb⟩; refine ⟨_, rfl, ?_⟩; replace HO_5 := Aside0.mk (Kd.R_below (ro HO_5) hb); replace BK699 := b_ BK699 hb; replace HB := hs hb; try clear hb) | ((with_reducible refine gd 15 ?_); refine bx 15 91 #[.int .i64 0, .int .i64 0, .int .u32 0, .int .i64 0] ?_; clear HB; intro gb725 w80 hg BK725 hb GE725 HB; replace HO_5 := Aside0.mk (Kd.R_below (ro HO_5) hb); have NB699_725 := nl BK699 hg; have NB725_699 := ng BK699 hg; replace BK699 := b_ BK699 hb; clear hb hg; have hnb81 := NB725_699.out; have hnc81 := NB699_725.out; obtain ⟨z82_0, z82_1, z82_2, z82_3⟩ := ca4 BK725; obtain ⟨f82_0, f82_1, f82_2, f82_3⟩ := fa4 BK725; obtain ⟨Ao83, co83, eo83⟩ := Kd.R_slice HO_5.out; subst eo83; have p726 : 0 ≤ (x14_4 : Int) := of_decide_eq_true as_; have q726 : x14_4 < (x5_3.length : Int) := of_decide_eq_true as_; obtain ⟨ad726, e726, hx726_0⟩ := Kd.at_int (Kd.R_reads' HO_5.out).2.2 x14_4 p726 q726; cases e726; have hn726_0 : ad726.block ≠ gb725 := Kd.own_blk (Kd.R_ne HO_5.out BK725.out (by decide)); have hn726_1 : ad726.block ≠ gb725 := Kd.own_blk (Kd.R_ne HO_5.out BK725.out (by decide)); have hn726_2 : ad726.block ≠ gb725 := Kd.own_blk (Kd.R_ne HO_5.out BK725.out (by decide)); have hn726_3 : ad726.block ≠ gb725 := Kd.own_blk (Kd.R_ne HO_5.out BK725.out (by decide)); replace hx726_0 := (cell_far (p := ⟨gb725, 0, none⟩) (ab hn726_0) (.int .i64 t720)).trans hx726_0; replace hx726_0 := (cell_far (p := ⟨gb725, 1, none⟩) (ab hn726_1) (.int .i64 t721)).trans hx726_0; replace hx726_0 := (cell_far (p := ⟨gb725, 2, none⟩) (ab hn726_2) (.int .u32 t722)).trans hx726_0; replace hx726_0 := (cell_far (p := ⟨gb725, 3, none⟩) (ab hn726_3) (.int .i64 t723)).trans hx726_0; clear hn726_0; clear hn726_1; clear hn726_2; clear hn726_3; replace p726 := eq_true p726; replace q726 := eq_true q726; have p727 : 0 ≤ (x14_4 : Int) := of_decide_eq_true as_; have q727 : x14_4 < (x5_3.length : Int) := of_decide_eq_true as_; obtain ⟨ad727, e727, hx727_0⟩ := Kd.at_int (Kd.R_reads' HO_5.out).2.2 x14_4 p727 q727; obtain rfl : ad726 = ad727 := (by injection e727); have hn727_0 : ad726.block ≠ gb725 := Kd.own_blk (Kd.R_ne HO_5.out BK725.out (by decide)); have hn727_1 : ad726.block ≠ gb725 := Kd.own_blk (Kd.R_ne HO_5.out BK725.out (by decide)); have hn727_2 : ad726.block ≠ gb725 := Kd.own_blk (Kd.R_ne HO_5.out BK725.out (by decide)); have hn727_3 : ad726.block ≠ gb725 := Kd.own_blk (Kd.R_ne HO_5.out BK725.out (by decide)); replace hx727_0 := (cell_far (p := ⟨gb725, 0, none⟩) (ab hn727_0) (.int .i64 t720)).trans hx727_0; replace hx727_0 := (cell_far (p := ⟨gb725, 1, none⟩) (ab hn727_1) (.int .i64 t721)).trans hx727_0; replace hx727_0 := (cell_far (p := ⟨gb725, 2, none⟩) (ab hn727_2) (.int .u32 t722)).trans hx727_0; replace hx727_0 := (cell_far (p := ⟨gb725, 3, none⟩) (ab hn727_3) (.int .i64 t723)).trans hx727_0; clear hn727_0; clear hn727_1; clear hn727_2; clear hn727_3; replace p727 := eq_true p727; replace q727 := eq_true q727))
                    go_ret2
                    exact ⟨_, rt, by first | exact Kd.R_nil _ _ _ _ _ | exact Kd.N_nil _ _ _ _ _ | exact Kd.V_nil _ _ _ _ _ | exact Kd.Q_nil _ _ _ _ _ | exact Kd.S_nil _ _ _ _ _, bw⟩
                   ·replace H := ieq H
                    rcases H with ⟨c84b0, c84b1, H⟩ | ⟨c84, c84b0, c84b1, H⟩
                    ·simp only [Option.some.injEq, Prod.mk.injEq] at H
                     obtain ⟨rfl, rfl⟩ := H
                     obtain ⟨z85_0, z85_1⟩ := ca2 BK699
                     obtain ⟨f85_0, f85_1⟩ := fa2 BK699
                     have p719 : 0 ≤ (x14_4 : Int) := of_decide_eq_true as_
                     have q719 : x14_4 < (l0_0.length : Int) := of_decide_eq_true as_
                     obtain ⟨ad719, e719, hx719_0⟩ := Kd.at_int HR0_0.out x14_4 p719 q719
                     cases e719
                     replace hx719_0 := cl HB hx719_0
                     replace p719 := eq_true p719
                     replace q719 := eq_true q719
                     go_wp2_with (first | ((with_reducible refine gf 66 ?_); refine gc Tryd.func66 (some 123) (spec_CtlRead.calls _ _ _ _ _ _ _ _ A60.out) ?_; rintro e w86 ⟨rfl, hb⟩; refine ⟨_, rfl, ?_⟩; replace HO_5 := Aside0.mk (Kd.R_below (ro HO_5) hb); replace BK699 := b_ BK699 hb; replace HB := hs hb; try clear hb) | ((with_reducible refine gd 15 ?_); refine bx 15 91 #[.int .i64 0, .int .i64 0, .int .u32 0, .int .i64 0] ?_; clear HB; intro gb725 w87 hg BK725 hb GE725 HB; replace HO_5 := Aside0.mk (Kd.R_below (ro HO_5) hb); have NB699_725 := nl BK699 hg; have NB725_699 := ng BK699 hg; replace BK699 := b_ BK699 hb; clear hb hg; have hnb88 := NB725_699.out; have hnc88 := NB699_725.out; obtain ⟨z89_0, z89_1, z89_2, z89_3⟩ := ca4 BK725; obtain ⟨f89_0, f89_1, f89_2, f89_3⟩ := fa4 BK725; obtain ⟨Ao90, co90, eo90⟩ := Kd.R_slice HO_5.out; subst eo90; have p726 : 0 ≤ (x14_4 : Int) := of_decide_eq_true as_; have q726 : x14_4 < (x5_3.length : Int) := of_decide_eq_true as_; obtain ⟨ad726, e726, hx726_0⟩ := Kd.at_int (Kd.R_reads' HO_5.out).2.2 x14_4 p726 q726; cases e726; have hn726_0 : ad726.block ≠ gb725 := Kd.own_blk (Kd.R_ne HO_5.out BK725.out (by decide)); have hn726_1 : ad726.block ≠ gb725 := Kd.own_blk (Kd.R_ne HO_5.out BK725.out (by decide)); have hn726_2 : ad726.block ≠ gb725 := Kd.own_blk (Kd.R_ne HO_5.out BK725.out (by decide)); have hn726_3 : ad726.block ≠ gb725 := Kd.own_blk (Kd.R_ne HO_5.out BK725.out (by decide)); replace hx726_0 := (cell_far (p := ⟨gb725, 0, none⟩) (ab hn726_0) (.int .i64 t720)).trans hx726_0; replace hx726_0 := (cell_far (p := ⟨gb725, 1, none⟩) (ab hn726_1) (.int .i64 t721)).trans hx726_0; replace hx726_0 := (cell_far (p := ⟨gb725, 2, none⟩) (ab hn726_2) (.int .u32 t722)).trans hx726_0; replace hx726_0 := (cell_far (p := ⟨gb725, 3, none⟩) (ab hn726_3) (.int .i64 t723)).trans hx726_0; clear hn726_0; clear hn726_1; clear hn726_2; clear hn726_3; replace p726 := eq_true p726; replace q726 := eq_true q726; have p727 : 0 ≤ (x14_4 : Int) := of_decide_eq_true as_; have q727 : x14_4 < (x5_3.length : Int) := of_decide_eq_true as_; obtain ⟨ad727, e727, hx727_0⟩ := Kd.at_int (Kd.R_reads' HO_5.out).2.2 x14_4 p727 q727; obtain rfl : ad726 = ad727 := (by injection e727); have hn727_0 : ad726.block ≠ gb725 := Kd.own_blk (Kd.R_ne HO_5.out BK725.out (by decide)); have hn727_1 : ad726.block ≠ gb725 := Kd.own_blk (Kd.R_ne HO_5.out BK725.out (by decide)); have hn727_2 : ad726.block ≠ gb725 := Kd.own_blk (Kd.R_ne HO_5.out BK725.out (by decide)); have hn727_3 : ad726.block ≠ gb725 := Kd.own_blk (Kd.R_ne HO_5.out BK725.out (by decide)); replace hx727_0 := (cell_far (p := ⟨gb725, 0, none⟩) (ab hn727_0) (.int .i64 t720)).trans hx727_0; replace hx727_0 := (cell_far (p := ⟨gb725, 1, none⟩) (ab hn727_1) (.int .i64 t721)).trans hx727_0; replace hx727_0 := (cell_far (p := ⟨gb725, 2, none⟩) (ab hn727_2) (.int .u32 t722)).trans hx727_0; replace hx727_0 := (cell_far (p := ⟨gb725, 3, none⟩) (ab hn727_3) (.int .i64 t723)).trans hx727_0; clear hn727_0; clear hn727_1; clear hn727_2; clear hn727_3; replace p727 := eq_true p727; replace q727 := eq_true q727; have p728 : 0 ≤ (x14_4 : Int) := of_decide_eq_true as_; have q728 : x14_4 < (x5_3.length : Int) := of_decide_eq_true as_; obtain ⟨ad728, e728, hx728_0⟩ := Kd.at_int (Kd.R_reads' HO_5.out).2.2 x14_4 p728 q728; obtain rfl : ad726 = ad728 := (by injection e728); have hn728_0 : ad726.block ≠ gb725 := Kd.own_blk (Kd.R_ne HO_5.out BK725.out (by decide)); have hn728_1 : ad726.block ≠ gb725 := Kd.own_blk (Kd.R_ne HO_5.out BK725.out (by decide)); have hn728_2 : ad726.block ≠ gb725 := Kd.own_blk (Kd.R_ne HO_5.out BK725.out (by decide)); have hn728_3 : ad726.block ≠ gb725 := Kd.own_blk (Kd.R_ne HO_5.out BK725.out (by decide)); replace hx728_0 := (cell_far (p := ⟨gb725, 0, none⟩) (ab hn728_0) (.int .i64 t720)).trans hx728_0; replace hx728_0 := (cell_far (p := ⟨gb725, 1, none⟩) (ab hn728_1) (.int .i64 t721)).trans hx728_0; replace hx728_0 := (cell_far (p := ⟨gb725, 2, none⟩) (ab hn728_2) (.int .u32 t722)).trans hx728_0; replace hx728_0 := (cell_far (p := ⟨gb725, 3, none⟩) (ab hn728_3) (.int .i64 t723)).trans hx728_0; clear hn728_0; clear hn728_1; clear hn728_2; clear hn728_3; replace p728 := eq_true p728; replace q728 := eq_true q728))
                     go_ret2
                     exact ⟨_, rt, by first | exact Kd.R_nil _ _ _ _ _ | exact Kd.N_nil _ _ _ _ _ | exact Kd.V_nil _ _ _ _ _ | exact Kd.Q_nil _ _ _ _ _ | exact Kd.S_nil _ _ _ _ _, bw⟩
                    ·have H' := Aside0.mk H
                     clear H
                     obtain ⟨z91_0, z91_1⟩ := ca2 BK699
                     obtain ⟨f91_0, f91_1⟩ := fa2 BK699
                     have p719 : 0 ≤ (x14_4 : Int) := of_decide_eq_true as_
                     have q719 : x14_4 < (l0_0.length : Int) := of_decide_eq_true as_
                     obtain ⟨ad719, e719, hx719_0⟩ := Kd.at_int HR0_0.out x14_4 p719 q719
                     cases e719
                     replace hx719_0 := cl HB hx719_0
                     replace p719 := eq_true p719
                     replace q719 := eq_true q719
                     go_wp2_with (first | ((with_reducible refine gf 66 ?_); refine gc Tryd.func66 (some 123) (spec_CtlRead.calls _ _ _ _ _ _ _ _ A60.out) ?_; rintro e w92 ⟨rfl, hb⟩; refine ⟨_, rfl, ?_⟩; replace HO_5 := Aside0.mk (Kd.R_below (ro HO_5) hb); replace BK699 := b_ BK699 hb; replace HB := hs hb; try clear hb) | ((with_reducible refine gd 15 ?_); refine bx 15 91 #[.int .i64 0, .int .i64 0, .int .u32 0, .int .i64 0] ?_; clear HB; intro gb725 w93 hg BK725 hb GE725 HB; replace HO_5 := Aside0.mk (Kd.R_below (ro HO_5) hb); have NB699_725 := nl BK699 hg; have NB725_699 := ng BK699 hg; replace BK699 := b_ BK699 hb; clear hb hg; have hnb94 := NB725_699.out; have hnc94 := NB699_725.out; obtain ⟨z95_0, z95_1, z95_2, z95_3⟩ := ca4 BK725; obtain ⟨f95_0, f95_1, f95_2, f95_3⟩ := fa4 BK725; obtain ⟨Ao96, co96, eo96⟩ := Kd.R_slice HO_5.out; subst eo96; have p726 : 0 ≤ (x14_4 : Int) := of_decide_eq_true as_; have q726 : x14_4 < (x5_3.length : Int) := of_decide_eq_true as_; obtain ⟨ad726, e726, hx726_0⟩ := Kd.at_int (Kd.R_reads' HO_5.out).2.2 x14_4 p726 q726; cases e726; have hn726_0 : ad726.block ≠ gb725 := Kd.own_blk (Kd.R_ne HO_5.out BK725.out (by decide)); have hn726_1 : ad726.block ≠ gb725 := Kd.own_blk (Kd.R_ne HO_5.out BK725.out (by decide)); have hn726_2 : ad726.block ≠ gb725 := Kd.own_blk (Kd.R_ne HO_5.out BK725.out (by decide)); have hn726_3 : ad726.block ≠ gb725 := Kd.own_blk (Kd.R_ne HO_5.out BK725.out (by decide)); replace hx726_0 := (cell_far (p := ⟨gb725, 0, none⟩) (ab hn726_0) (.int .i64 t720)).trans hx726_0; replace hx726_0 := (cell_far (p := ⟨gb725, 1, none⟩) (ab hn726_1) (.int .i64 t721)).trans hx726_0; replace hx726_0 := (cell_far (p := ⟨gb725, 2, none⟩) (ab hn726_2) (.int .u32 t722)).trans hx726_0; replace hx726_0 := (cell_far (p := ⟨gb725, 3, none⟩) (ab hn726_3) (.int .i64 t723)).trans hx726_0; clear hn726_0; clear hn726_1; clear hn726_2; clear hn726_3; replace p726 := eq_true p726; replace q726 := eq_true q726; have p727 : 0 ≤ (x14_4 : Int) := of_decide_eq_true as_; have q727 : x14_4 < (x5_3.length : Int) := of_decide_eq_true as_; obtain ⟨ad727, e727, hx727_0⟩ := Kd.at_int (Kd.R_reads' HO_5.out).2.2 x14_4 p727 q727; obtain rfl : ad726 = ad727 := (by injection e727); have hn727_0 : ad726.block ≠ gb725 := Kd.own_blk (Kd.R_ne HO_5.out BK725.out (by decide)); have hn727_1 : ad726.block ≠ gb725 := Kd.own_blk (Kd.R_ne HO_5.out BK725.out (by decide)); have hn727_2 : ad726.block ≠ gb725 := Kd.own_blk (Kd.R_ne HO_5.out BK725.out (by decide)); have hn727_3 : ad726.block ≠ gb725 := Kd.own_blk (Kd.R_ne HO_5.out BK725.out (by decide)); replace hx727_0 := (cell_far (p := ⟨gb725, 0, none⟩) (ab hn727_0) (.int .i64 t720)).trans hx727_0; replace hx727_0 := (cell_far (p := ⟨gb725, 1, none⟩) (ab hn727_1) (.int .i64 t721)).trans hx727_0; replace hx727_0 := (cell_far (p := ⟨gb725, 2, none⟩) (ab hn727_2) (.int .u32 t722)).trans hx727_0; replace hx727_0 := (cell_far (p := ⟨gb725, 3, none⟩) (ab hn727_3) (.int .i64 t723)).trans hx727_0; clear hn727_0; clear hn727_1; clear hn727_2; clear hn727_3; replace p727 := eq_true p727; replace q727 := eq_true q727; have p728 : 0 ≤ (x14_4 : Int) := of_decide_eq_true as_; have q728 : x14_4 < (x5_3.length : Int) := of_decide_eq_true as_; obtain ⟨ad728, e728, hx728_0⟩ := Kd.at_int (Kd.R_reads' HO_5.out).2.2 x14_4 p728 q728; obtain rfl : ad726 = ad728 := (by injection e728); have hn728_0 : ad726.block ≠ gb725 := Kd.own_blk (Kd.R_ne HO_5.out BK725.out (by decide)); have hn728_1 : ad726.block ≠ gb725 := Kd.own_blk (Kd.R_ne HO_5.out BK725.out (by decide)); have hn728_2 : ad726.block ≠ gb725 := Kd.own_blk (Kd.R_ne HO_5.out BK725.out (by decide)); have hn728_3 : ad726.block ≠ gb725 := Kd.own_blk (Kd.R_ne HO_5.out BK725.out (by decide)); replace hx728_0 := (cell_far (p := ⟨gb725, 0, none⟩) (ab hn728_0) (.int .i64 t720)).trans hx728_0; replace hx728_0 := (cell_far (p := ⟨gb725, 1, none⟩) (ab hn728_1) (.int .i64 t721)).trans hx728_0; replace hx728_0 := (cell_far (p := ⟨gb725, 2, none⟩) (ab hn728_2) (.int .u32 t722)).trans hx728_0; replace hx728_0 := (cell_far (p := ⟨gb725, 3, none⟩) (ab hn728_3) (.int .i64 t723)).trans hx728_0; clear hn728_0; clear hn728_1; clear hn728_2; clear hn728_3; replace p728 := eq_true p728; replace q728 := eq_true q728))
                     go_roundg k4
                     case measure => have := HK1.out; have := HK2.out; have := HK3.out; have := HK4.out; omega
                     case rel => exact ⟨(wrap64 (x14_4 + 1)), ev, H', ⟨by have := HK1.out; have := HK2.out; have := HK3.out; have := HK4.out; omega⟩, ⟨by (with_reducible repeat (first | apply Kd.R_alloc | apply Kd.R_drewN | apply Kd.R_drew)); exact Kd.R_mono (Kd.R_far (p := ⟨gb725, 3, none⟩) (Kd.R_far (p := ⟨gb725, 2, none⟩) (Kd.R_far (p := ⟨gb725, 1, none⟩) (Kd.R_far (p := ⟨gb725, 0, none⟩) (Kd.R_types HO_5.out BK725.out (by decide)) (fun _ hk => hk.2) (.int .i64 t720)) (fun _ hk => hk.2) (.int .i64 t721)) (fun _ hk => hk.2) (.int .u32 t722)) (fun _ hk => hk.2) (.int .i64 t723)) (fun _ hk => trivial)⟩, ⟨bk BK699⟩, ⟨bw⟩⟩
                ·replace H := ige H
                 rcases H with ⟨c97b0, H⟩ | ⟨c97b0, H⟩
                 ·replace H := ieq H
                  rcases H with ⟨c98b0, c98b1, H⟩ | ⟨c98, c98b0, c98b1, H⟩
                  ·replace H := ieq H
                   rcases H with ⟨c99b0, c99b1, H⟩ | ⟨c99, c99b0, c99b1, H⟩
                   ·have H' := Aside0.mk H
                    clear H
                    obtain ⟨z100_0, z100_1⟩ := ca2 BK699
                    obtain ⟨f100_0, f100_1⟩ := fa2 BK699
                    have p719 : 0 ≤ (x14_4 : Int) := of_decide_eq_true as_
                    have q719 : x14_4 < (l0_0.length : Int) := of_decide_eq_true as_
                    obtain ⟨ad719, e719, hx719_0⟩ := Kd.at_int HR0_0.out x14_4 p719 q719
                    cases e719
                    replace hx719_0 := cl HB hx719_0
                    replace p719 := eq_true p719
                    replace q719 := eq_true q719
                    go_wp2_with (first | ((with_reducible refine gf 66 ?_); refine gc Tryd.func66 (some 123) (spec_CtlRead.calls _ _ _ _ _ _ _ _ A60.out) ?_; rintro e w101 ⟨rfl, hb⟩; refine ⟨_, rfl, ?_⟩; replace HO_5 := Aside0.mk (Kd.R_below (ro HO_5) hb); replace BK699 := b_ BK699 hb; replace HB := hs hb; try clear hb) | ((with_reducible refine gd 15 ?_); refine bx 15 91 #[.int .i64 0, .int .i64 0, .int .u32 0, .int .i64 0] ?_; clear HB; intro gb725 w102 hg BK725 hb GE725 HB; replace HO_5 := Aside0.mk (Kd.R_below (ro HO_5) hb); have NB699_725 := nl BK699 hg; have NB725_699 := ng BK699 hg; replace BK699 := b_ BK699 hb; clear hb hg; have hnb103 := NB725_699.out; have hnc103 := NB699_725.out; obtain ⟨z104_0, z104_1, z104_2, z104_3⟩ := ca4 BK725; obtain ⟨f104_0, f104_1, f104_2, f104_3⟩ := fa4 BK725; obtain ⟨Ao105, co105, eo105⟩ := Kd.R_slice HO_5.out; subst eo105; have p726 : 0 ≤ (x14_4 : Int) := of_decide_eq_true as_; have q726 : x14_4 < (x5_3.length : Int) := of_decide_eq_true as_; obtain ⟨ad726, e726, hx726_0⟩ := Kd.at_int (Kd.R_reads' HO_5.out).2.2 x14_4 p726 q726; cases e726; have hn726_0 : ad726.block ≠ gb725 := Kd.own_blk (Kd.R_ne HO_5.out BK725.out (by decide)); have hn726_1 : ad726.block ≠ gb725 := Kd.own_blk (Kd.R_ne HO_5.out BK725.out (by decide)); have hn726_2 : ad726.block ≠ gb725 := Kd.own_blk (Kd.R_ne HO_5.out BK725.out (by decide)); have hn726_3 : ad726.block ≠ gb725 := Kd.own_blk (Kd.R_ne HO_5.out BK725.out (by decide)); replace hx726_0 := (cell_far (p := ⟨gb725, 0, none⟩) (ab hn726_0) (.int .i64 t720)).trans hx726_0; replace hx726_0 := (cell_far (p := ⟨gb725, 1, none⟩) (ab hn726_1) (.int .i64 t721)).trans hx726_0; replace hx726_0 := (cell_far (p := ⟨gb725, 2, none⟩) (ab hn726_2) (.int .u32 t722)).trans hx726_0; replace hx726_0 := (cell_far (p := ⟨gb725, 3, none⟩) (ab hn726_3) (.int .i64 t723)).trans hx726_0; clear hn726_0; clear hn726_1; clear hn726_2; clear hn726_3; replace p726 := eq_true p726; replace q726 := eq_true q726; have p729 : 0 ≤ (x14_4 : Int) := of_decide_eq_true as_; have q729 : x14_4 < (x5_3.length : Int) := of_decide_eq_true as_; obtain ⟨ad729, e729, hx729_0⟩ := Kd.at_int (Kd.R_reads' HO_5.out).2.2 x14_4 p729 q729; obtain rfl : ad726 = ad729 := (by injection e729); have hn729_0 : ad726.block ≠ gb725 := Kd.own_blk (Kd.R_ne HO_5.out BK725.out (by decide)); have hn729_1 : ad726.block ≠ gb725 := Kd.own_blk (Kd.R_ne HO_5.out BK725.out (by decide)); have hn729_2 : ad726.block ≠ gb725 := Kd.own_blk (Kd.R_ne HO_5.out BK725.out (by decide)); have hn729_3 : ad726.block ≠ gb725 := Kd.own_blk (Kd.R_ne HO_5.out BK725.out (by decide)); replace hx729_0 := (cell_far (p := ⟨gb725, 0, none⟩) (ab hn729_0) (.int .i64 t720)).trans hx729_0; replace hx729_0 := (cell_far (p := ⟨gb725, 1, none⟩) (ab hn729_1) (.int .i64 t721)).trans hx729_0; replace hx729_0 := (cell_far (p := ⟨gb725, 2, none⟩) (ab hn729_2) (.int .u32 t722)).trans hx729_0; replace hx729_0 := (cell_far (p := ⟨gb725, 3, none⟩) (ab hn729_3) (.int .i64 t723)).trans hx729_0; clear hn729_0; clear hn729_1; clear hn729_2; clear hn729_3; replace p729 := eq_true p729; replace q729 := eq_true q729; have p730 : 0 ≤ (x14_4 : Int) := of_decide_eq_true as_; have q730 : x14_4 < (x5_3.length : Int) := of_decide_eq_true as_; obtain ⟨ad730, e730, hx730_0⟩ := Kd.at_int (Kd.R_reads' HO_5.out).2.2 x14_4 p730 q730; obtain rfl : ad726 = ad730 := (by injection e730); have hn730_0 : ad726.block ≠ gb725 := Kd.own_blk (Kd.R_ne HO_5.out BK725.out (by decide)); have hn730_1 : ad726.block ≠ gb725 := Kd.own_blk (Kd.R_ne HO_5.out BK725.out (by decide)); have hn730_2 : ad726.block ≠ gb725 := Kd.own_blk (Kd.R_ne HO_5.out BK725.out (by decide)); have hn730_3 : ad726.block ≠ gb725 := Kd.own_blk (Kd.R_ne HO_5.out BK725.out (by decide)); replace hx730_0 := (cell_far (p := ⟨gb725, 0, none⟩) (ab hn730_0) (.int .i64 t720)).trans hx730_0; replace hx730_0 := (cell_far (p := ⟨gb725, 1, none⟩) (ab hn730_1) (.int .i64 t721)).trans hx730_0; replace hx730_0 := (cell_far (p := ⟨gb725, 2, none⟩) (ab hn730_2) (.int .u32 t722)).trans hx730_0; replace hx730_0 := (cell_far (p := ⟨gb725, 3, none⟩) (ab hn730_3) (.int .i64 t723)).trans hx730_0; clear hn730_0; clear hn730_1; clear hn730_2; clear hn730_3; replace p730 := eq_true p730; replace q730 := eq_true q730))
                    go_roundg k4
                    case measure => have := HK1.out; have := HK2.out; have := HK3.out; have := HK4.out; omega
                    case rel => exact ⟨(wrap64 (x14_4 + 1)), ev, H', ⟨by have := HK1.out; have := HK2.out; have := HK3.out; have := HK4.out; omega⟩, ⟨by (with_reducible repeat (first | apply Kd.R_alloc | apply Kd.R_drewN | apply Kd.R_drew)); exact Kd.R_mono (Kd.R_far (p := ⟨gb725, 3, none⟩) (Kd.R_far (p := ⟨gb725, 2, none⟩) (Kd.R_far (p := ⟨gb725, 1, none⟩) (Kd.R_far (p := ⟨gb725, 0, none⟩) (Kd.R_types HO_5.out BK725.out (by decide)) (fun _ hk => hk.2) (.int .i64 t720)) (fun _ hk => hk.2) (.int .i64 t721)) (fun _ hk => hk.2) (.int .u32 t722)) (fun _ hk => hk.2) (.int .i64 t723)) (fun _ hk => trivial)⟩, ⟨bk BK699⟩, ⟨bw⟩⟩
                   ·have H' := Aside0.mk H
                    clear H
                    obtain ⟨z106_0, z106_1⟩ := ca2 BK699
                    obtain ⟨f106_0, f106_1⟩ := fa2 BK699
                    have p719 : 0 ≤ (x14_4 : Int) := of_decide_eq_true as_
                    have q719 : x14_4 < (l0_0.length : Int) := of_decide_eq_true as_
                    obtain ⟨ad719, e719, hx719_0⟩ := Kd.at_int HR0_0.out x14_4 p719 q719
                    cases e719
                    replace hx719_0 := cl HB hx719_0
                    replace p719 := eq_true p719
                    replace q719 := eq_true q719
                    go_wp2_with (first | ((with_reducible refine gf 66 ?_); refine gc Tryd.func66 (some 123) (spec_CtlRead.calls _ _ _ _ _ _ _ _ A60.out) ?_; rintro e w107 ⟨rfl, hb⟩; refine ⟨_, rfl, ?_⟩; replace HO_5 := Aside0.mk (Kd.R_below (ro HO_5) hb); replace BK699 := b_ BK699 hb; replace HB := hs hb; try clear hb) | ((with_reducible refine gd 15 ?_); refine bx 15 91 #[.int .i64 0, .int .i64 0, .int .u32 0, .int .i64 0] ?_; clear HB; intro gb725 w108 hg BK725 hb GE725 HB; replace HO_5 := Aside0.mk (Kd.R_below (ro HO_5) hb); have NB699_725 := nl BK699 hg; have NB725_699 := ng BK699 hg; replace BK699 := b_ BK699 hb; clear hb hg; have hnb109 := NB725_699.out; have hnc109 := NB699_725.out; obtain ⟨z110_0, z110_1, z110_2, z110_3⟩ := ca4 BK725; obtain ⟨f110_0, f110_1, f110_2, f110_3⟩ := fa4 BK725; obtain ⟨Ao111, co111, eo111⟩ := Kd.R_slice HO_5.out; subst eo111; have p726 : 0 ≤ (x14_4 : Int) := of_decide_eq_true as_; have q726 : x14_4 < (x5_3.length : Int) := of_decide_eq_true as_; obtain ⟨ad726, e726, hx726_0⟩ := Kd.at_int (Kd.R_reads' HO_5.out).2.2 x14_4 p726 q726; cases e726; have hn726_0 : ad726.block ≠ gb725 := Kd.own_blk (Kd.R_ne HO_5.out BK725.out (by decide)); have hn726_1 : ad726.block ≠ gb725 := Kd.own_blk (Kd.R_ne HO_5.out BK725.out (by decide)); have hn726_2 : ad726.block ≠ gb725 := Kd.own_blk (Kd.R_ne HO_5.out BK725.out (by decide)); have hn726_3 : ad726.block ≠ gb725 := Kd.own_blk (Kd.R_ne HO_5.out BK725.out (by decide)); replace hx726_0 := (cell_far (p := ⟨gb725, 0, none⟩) (ab hn726_0) (.int .i64 t720)).trans hx726_0; replace hx726_0 := (cell_far (p := ⟨gb725, 1, none⟩) (ab hn726_1) (.int .i64 t721)).trans hx726_0; replace hx726_0 := (cell_far (p := ⟨gb725, 2, none⟩) (ab hn726_2) (.int .u32 t722)).trans hx726_0; replace hx726_0 := (cell_far (p := ⟨gb725, 3, none⟩) (ab hn726_3) (.int .i64 t723)).trans hx726_0; clear hn726_0; clear hn726_1; clear hn726_2; clear hn726_3; replace p726 := eq_true p726; replace q726 := eq_true q726; have p729 : 0 ≤ (x14_4 : Int) := of_decide_eq_true as_; have q729 : x14_4 < (x5_3.length : Int) := of_decide_eq_true as_; obtain ⟨ad729, e729, hx729_0⟩ := Kd.at_int (Kd.R_reads' HO_5.out).2.2 x14_4 p729 q729; obtain rfl : ad726 = ad729 := (by injection e729); have hn729_0 : ad726.block ≠ gb725 := Kd.own_blk (Kd.R_ne HO_5.out BK725.out (by decide)); have hn729_1 : ad726.block ≠ gb725 := Kd.own_blk (Kd.R_ne HO_5.out BK725.out (by decide)); have hn729_2 : ad726.block ≠ gb725 := Kd.own_blk (Kd.R_ne HO_5.out BK725.out (by decide)); have hn729_3 : ad726.block ≠ gb725 := Kd.own_blk (Kd.R_ne HO_5.out BK725.out (by decide)); replace hx729_0 := (cell_far (p := ⟨gb725, 0, none⟩) (ab hn729_0) (.int .i64 t720)).trans hx729_0; replace hx729_0 := (cell_far (p := ⟨gb725, 1, none⟩) (ab hn729_1) (.int .i64 t721)).trans hx729_0; replace hx729_0 := (cell_far (p := ⟨gb725, 2, none⟩) (ab hn729_2) (.int .u32 t722)).trans hx729_0; replace hx729_0 := (cell_far (p := ⟨gb725, 3, none⟩) (ab hn729_3) (.int .i64 t723)).trans hx729_0; clear hn729_0; clear hn729_1; clear hn729_2; clear hn729_3; replace p729 := eq_true p729; replace q729 := eq_true q729; have p730 : 0 ≤ (x14_4 : Int) := of_decide_eq_true as_; have q730 : x14_4 < (x5_3.length : Int) := of_decide_eq_true as_; obtain ⟨ad730, e730, hx730_0⟩ := Kd.at_int (Kd.R_reads' HO_5.out).2.2 x14_4 p730 q730; obtain rfl : ad726 = ad730 := (by injection e730); have hn730_0 : ad726.block ≠ gb725 := Kd.own_blk (Kd.R_ne HO_5.out BK725.out (by decide)); have hn730_1 : ad726.block ≠ gb725 := Kd.own_blk (Kd.R_ne HO_5.out BK725.out (by decide)); have hn730_2 : ad726.block ≠ gb725 := Kd.own_blk (Kd.R_ne HO_5.out BK725.out (by decide)); have hn730_3 : ad726.block ≠ gb725 := Kd.own_blk (Kd.R_ne HO_5.out BK725.out (by decide)); replace hx730_0 := (cell_far (p := ⟨gb725, 0, none⟩) (ab hn730_0) (.int .i64 t720)).trans hx730_0; replace hx730_0 := (cell_far (p := ⟨gb725, 1, none⟩) (ab hn730_1) (.int .i64 t721)).trans hx730_0; replace hx730_0 := (cell_far (p := ⟨gb725, 2, none⟩) (ab hn730_2) (.int .u32 t722)).trans hx730_0; replace hx730_0 := (cell_far (p := ⟨gb725, 3, none⟩) (ab hn730_3) (.int .i64 t723)).trans hx730_0; clear hn730_0; clear hn730_1; clear hn730_2; clear hn730_3; replace p730 := eq_true p730; replace q730 := eq_true q730))
                    go_roundg k4
                    case measure => have := HK1.out; have := HK2.out; have := HK3.out; have := HK4.out; omega
                    case rel => exact ⟨(wrap64 (x14_4 + 1)), ev, H', ⟨by have := HK1.out; have := HK2.out; have := HK3.out; have := HK4.out; omega⟩, ⟨by (with_reducible repeat (first | apply Kd.R_alloc | apply Kd.R_drewN | apply Kd.R_drew)); exact Kd.R_mono (Kd.R_far (p := ⟨gb725, 3, none⟩) (Kd.R_far (p := ⟨gb725, 2, none⟩) (Kd.R_far (p := ⟨gb725, 1, none⟩) (Kd.R_far (p := ⟨gb725, 0, none⟩) (Kd.R_types HO_5.out BK725.out (by decide)) (fun _ hk => hk.2) (.int .i64 t720)) (fun _ hk => hk.2) (.int .i64 t721)) (fun _ hk => hk.2) (.int .u32 t722)) (fun _ hk => hk.2) (.int .i64 t723)) (fun _ hk => trivial)⟩, ⟨bk BK699⟩, ⟨bw⟩⟩
                  ·simp only [Option.some.injEq, Prod.mk.injEq] at H
                   obtain ⟨rfl, rfl⟩ := H
                   obtain ⟨z112_0, z112_1⟩ := ca2 BK699
                   obtain ⟨f112_0, f112_1⟩ := fa2 BK699
                   have p719 : 0 ≤ (x14_4 : Int) := of_decide_eq_true as_
                   have q719 : x14_4 < (l0_0.length : Int) := of_decide_eq_true as_
                   obtain ⟨ad719, e719, hx719_0⟩ := Kd.at_int HR0_0.out x14_4 p719 q719
                   cases e719
                   replace hx719_0 := cl HB hx719_0
                   replace p719 := eq_true p719
                   replace q719 := eq_true q719
                   go_wp2_with (first | ((with_reducible refine gf 66 ?_); refine gc Tryd.func66 (some 123) (spec_CtlRead.calls _ _ _ _ _ _ _ _ A60.out) ?_; rintro e w113 ⟨rfl, hb⟩; refine ⟨_, rfl, ?_⟩; replace HO_5 := Aside0.mk (Kd.R_below (ro HO_5) hb); replace BK699 := b_ BK699 hb; replace HB := hs hb; try clear hb) | ((with_reducible refine gd 15 ?_); refine bx 15 91 #[.int .i64 0, .int .i64 0, .int .u32 0, .int .i64 0] ?_; clear HB; intro gb725 w114 hg BK725 hb GE725 HB; replace HO_5 := Aside0.mk (Kd.R_below (ro HO_5) hb); have NB699_725 := nl BK699 hg; have NB725_699 := ng BK699 hg; replace BK699 := b_ BK699 hb; clear hb hg; have hnb115 := NB725_699.out; have hnc115 := NB699_725.out; obtain ⟨z116_0, z116_1, z116_2, z116_3⟩ := ca4 BK725; obtain ⟨f116_0, f116_1, f116_2, f116_3⟩ := fa4 BK725; obtain ⟨Ao117, co117, eo117⟩ := Kd.R_slice HO_5.out; subst eo117; have p726 : 0 ≤ (x14_4 : Int) := of_decide_eq_true as_; have q726 : x14_4 < (x5_3.length : Int) := of_decide_eq_true as_; obtain ⟨ad726, e726, hx726_0⟩ := Kd.at_int (Kd.R_reads' HO_5.out).2.2 x14_4 p726 q726; cases e726; have hn726_0 : ad726.block ≠ gb725 := Kd.own_blk (Kd.R_ne HO_5.out BK725.out (by decide)); have hn726_1 : ad726.block ≠ gb725 := Kd.own_blk (Kd.R_ne HO_5.out BK725.out (by decide)); have hn726_2 : ad726.block ≠ gb725 := Kd.own_blk (Kd.R_ne HO_5.out BK725.out (by decide)); have hn726_3 : ad726.block ≠ gb725 := Kd.own_blk (Kd.R_ne HO_5.out BK725.out (by decide)); replace hx726_0 := (cell_far (p := ⟨gb725, 0, none⟩) (ab hn726_0) (.int .i64 t720)).trans hx726_0; replace hx726_0 := (cell_far (p := ⟨gb725, 1, none⟩) (ab hn726_1) (.int .i64 t721)).trans hx726_0; replace hx726_0 := (cell_far (p := ⟨gb725, 2, none⟩) (ab hn726_2) (.int .u32 t722)).trans hx726_0; replace hx726_0 := (cell_far (p := ⟨gb725, 3, none⟩) (ab hn726_3) (.int .i64 t723)).trans hx726_0; clear hn726_0; clear hn726_1; clear hn726_2; clear hn726_3; replace p726 := eq_true p726; replace q726 := eq_true q726; have p729 : 0 ≤ (x14_4 : Int) := of_decide_eq_true as_; have q729 : x14_4 < (x5_3.length : Int) := of_decide_eq_true as_; obtain ⟨ad729, e729, hx729_0⟩ := Kd.at_int (Kd.R_reads' HO_5.out).2.2 x14_4 p729 q729; obtain rfl : ad726 = ad729 := (by injection e729); have hn729_0 : ad726.block ≠ gb725 := Kd.own_blk (Kd.R_ne HO_5.out BK725.out (by decide)); have hn729_1 : ad726.block ≠ gb725 := Kd.own_blk (Kd.R_ne HO_5.out BK725.out (by decide)); have hn729_2 : ad726.block ≠ gb725 := Kd.own_blk (Kd.R_ne HO_5.out BK725.out (by decide)); have hn729_3 : ad726.block ≠ gb725 := Kd.own_blk (Kd.R_ne HO_5.out BK725.out (by decide)); replace hx729_0 := (cell_far (p := ⟨gb725, 0, none⟩) (ab hn729_0) (.int .i64 t720)).trans hx729_0; replace hx729_0 := (cell_far (p := ⟨gb725, 1, none⟩) (ab hn729_1) (.int .i64 t721)).trans hx729_0; replace hx729_0 := (cell_far (p := ⟨gb725, 2, none⟩) (ab hn729_2) (.int .u32 t722)).trans hx729_0; replace hx729_0 := (cell_far (p := ⟨gb725, 3, none⟩) (ab hn729_3) (.int .i64 t723)).trans hx729_0; clear hn729_0; clear hn729_1; clear hn729_2; clear hn729_3; replace p729 := eq_true p729; replace q729 := eq_true q729))
                   go_ret2
                   exact ⟨_, rt, by first | exact Kd.R_nil _ _ _ _ _ | exact Kd.N_nil _ _ _ _ _ | exact Kd.V_nil _ _ _ _ _ | exact Kd.Q_nil _ _ _ _ _ | exact Kd.S_nil _ _ _ _ _, bw⟩
                 ·replace H := ieq H
                  rcases H with ⟨c118b0, c118b1, H⟩ | ⟨c118, c118b0, c118b1, H⟩
                  ·replace H := ieq H
                   rcases H with ⟨c119b0, c119b1, H⟩ | ⟨c119, c119b0, c119b1, H⟩
                   ·have H' := Aside0.mk H
                    clear H
                    obtain ⟨z120_0, z120_1⟩ := ca2 BK699
                    obtain ⟨f120_0, f120_1⟩ := fa2 BK699
                    have p719 : 0 ≤ (x14_4 : Int) := of_decide_eq_true as_
                    have q719 : x14_4 < (l0_0.length : Int) := of_decide_eq_true as_
                    obtain ⟨ad719, e719, hx719_0⟩ := Kd.at_int HR0_0.out x14_4 p719 q719
                    cases e719
                    replace hx719_0 := cl HB hx719_0
                    replace p719 := eq_true p719
                    replace q719 := eq_true q719
                    go_wp2_with (first | ((with_reducible refine gf 66 ?_); refine gc Tryd.func66 (some 123) (spec_CtlRead.calls _ _ _ _ _ _ _ _ A60.out) ?_; rintro e w121 ⟨rfl, hb⟩; refine ⟨_, rfl, ?_⟩; replace HO_5 := Aside0.mk (Kd.R_below (ro HO_5) hb); replace BK699 := b_ BK699 hb; replace HB := hs hb; try clear hb) | ((with_reducible refine gd 15 ?_); refine bx 15 91 #[.int .i64 0, .int .i64 0, .int .u32 0, .int .i64 0] ?_; clear HB; intro gb725 w122 hg BK725 hb GE725 HB; replace HO_5 := Aside0.mk (Kd.R_below (ro HO_5) hb); have NB699_725 := nl BK699 hg; have NB725_699 := ng BK699 hg; replace BK699 := b_ BK699 hb; clear hb hg; have hnb123 := NB725_699.out; have hnc123 := NB699_725.out; obtain ⟨z124_0, z124_1, z124_2, z124_3⟩ := ca4 BK725; obtain ⟨f124_0, f124_1, f124_2, f124_3⟩ := fa4 BK725; obtain ⟨Ao125, co125, eo125⟩ := Kd.R_slice HO_5.out; subst eo125; have p726 : 0 ≤ (x14_4 : Int) := of_decide_eq_true as_; have q726 : x14_4 < (x5_3.length : Int) := of_decide_eq_true as_; obtain ⟨ad726, e726, hx726_0⟩ := Kd.at_int (Kd.R_reads' HO_5.out).2.2 x14_4 p726 q726; cases e726; have hn726_0 : ad726.block ≠ gb725 := Kd.own_blk (Kd.R_ne HO_5.out BK725.out (by decide)); have hn726_1 : ad726.block ≠ gb725 := Kd.own_blk (Kd.R_ne HO_5.out BK725.out (by decide)); have hn726_2 : ad726.block ≠ gb725 := Kd.own_blk (Kd.R_ne HO_5.out BK725.out (by decide)); have hn726_3 : ad726.block ≠ gb725 := Kd.own_blk (Kd.R_ne HO_5.out BK725.out (by decide)); replace hx726_0 := (cell_far (p := ⟨gb725, 0, none⟩) (ab hn726_0) (.int .i64 t720)).trans hx726_0; replace hx726_0 := (cell_far (p := ⟨gb725, 1, none⟩) (ab hn726_1) (.int .i64 t721)).trans hx726_0; replace hx726_0 := (cell_far (p := ⟨gb725, 2, none⟩) (ab hn726_2) (.int .u32 t722)).trans hx726_0; replace hx726_0 := (cell_far (p := ⟨gb725, 3, none⟩) (ab hn726_3) (.int .i64 t723)).trans hx726_0; clear hn726_0; clear hn726_1; clear hn726_2; clear hn726_3; replace p726 := eq_true p726; replace q726 := eq_true q726; have p729 : 0 ≤ (x14_4 : Int) := of_decide_eq_true as_; have q729 : x14_4 < (x5_3.length : Int) := of_decide_eq_true as_; obtain ⟨ad729, e729, hx729_0⟩ := Kd.at_int (Kd.R_reads' HO_5.out).2.2 x14_4 p729 q729; obtain rfl : ad726 = ad729 := (by injection e729); have hn729_0 : ad726.block ≠ gb725 := Kd.own_blk (Kd.R_ne HO_5.out BK725.out (by decide)); have hn729_1 : ad726.block ≠ gb725 := Kd.own_blk (Kd.R_ne HO_5.out BK725.out (by decide)); have hn729_2 : ad726.block ≠ gb725 := Kd.own_blk (Kd.R_ne HO_5.out BK725.out (by decide)); have hn729_3 : ad726.block ≠ gb725 := Kd.own_blk (Kd.R_ne HO_5.out BK725.out (by decide)); replace hx729_0 := (cell_far (p := ⟨gb725, 0, none⟩) (ab hn729_0) (.int .i64 t720)).trans hx729_0; replace hx729_0 := (cell_far (p := ⟨gb725, 1, none⟩) (ab hn729_1) (.int .i64 t721)).trans hx729_0; replace hx729_0 := (cell_far (p := ⟨gb725, 2, none⟩) (ab hn729_2) (.int .u32 t722)).trans hx729_0; replace hx729_0 := (cell_far (p := ⟨gb725, 3, none⟩) (ab hn729_3) (.int .i64 t723)).trans hx729_0; clear hn729_0; clear hn729_1; clear hn729_2; clear hn729_3; replace p729 := eq_true p729; replace q729 := eq_true q729; have p731 : 0 ≤ (x14_4 : Int) := of_decide_eq_true as_; have q731 : x14_4 < (x5_3.length : Int) := of_decide_eq_true as_; obtain ⟨ad731, e731, hx731_0⟩ := Kd.at_int (Kd.R_reads' HO_5.out).2.2 x14_4 p731 q731; obtain rfl : ad726 = ad731 := (by injection e731); have hn731_0 : ad726.block ≠ gb725 := Kd.own_blk (Kd.R_ne HO_5.out BK725.out (by decide)); have hn731_1 : ad726.block ≠ gb725 := Kd.own_blk (Kd.R_ne HO_5.out BK725.out (by decide)); have hn731_2 : ad726.block ≠ gb725 := Kd.own_blk (Kd.R_ne HO_5.out BK725.out (by decide)); have hn731_3 : ad726.block ≠ gb725 := Kd.own_blk (Kd.R_ne HO_5.out BK725.out (by decide)); replace hx731_0 := (cell_far (p := ⟨gb725, 0, none⟩) (ab hn731_0) (.int .i64 t720)).trans hx731_0; replace hx731_0 := (cell_far (p := ⟨gb725, 1, none⟩) (ab hn731_1) (.int .i64 t721)).trans hx731_0; replace hx731_0 := (cell_far (p := ⟨gb725, 2, none⟩) (ab hn731_2) (.int .u32 t722)).trans hx731_0; replace hx731_0 := (cell_far (p := ⟨gb725, 3, none⟩) (ab hn731_3) (.int .i64 t723)).trans hx731_0; clear hn731_0; clear hn731_1; clear hn731_2; clear hn731_3; replace p731 := eq_true p731; replace q731 := eq_true q731))
                    go_roundg k4
                    case measure => have := HK1.out; have := HK2.out; have := HK3.out; have := HK4.out; omega
                    case rel => exact ⟨(wrap64 (x14_4 + 1)), ev, H', ⟨by have := HK1.out; have := HK2.out; have := HK3.out; have := HK4.out; omega⟩, ⟨by (with_reducible repeat (first | apply Kd.R_alloc | apply Kd.R_drewN | apply Kd.R_drew)); exact Kd.R_mono (Kd.R_far (p := ⟨gb725, 3, none⟩) (Kd.R_far (p := ⟨gb725, 2, none⟩) (Kd.R_far (p := ⟨gb725, 1, none⟩) (Kd.R_far (p := ⟨gb725, 0, none⟩) (Kd.R_types HO_5.out BK725.out (by decide)) (fun _ hk => hk.2) (.int .i64 t720)) (fun _ hk => hk.2) (.int .i64 t721)) (fun _ hk => hk.2) (.int .u32 t722)) (fun _ hk => hk.2) (.int .i64 t723)) (fun _ hk => trivial)⟩, ⟨bk BK699⟩, ⟨bw⟩⟩
                   ·have HU126 := Aside0.mk H
                    clear H
                    obtain ⟨z127_0, z127_1⟩ := ca2 BK699
                    obtain ⟨f127_0, f127_1⟩ := fa2 BK699
                    have p719 : 0 ≤ (x14_4 : Int) := of_decide_eq_true as_
                    have q719 : x14_4 < (l0_0.length : Int) := of_decide_eq_true as_
                    obtain ⟨ad719, e719, hx719_0⟩ := Kd.at_int HR0_0.out x14_4 p719 q719
                    cases e719
                    replace hx719_0 := cl HB hx719_0
                    replace p719 := eq_true p719
                    replace q719 := eq_true q719
                    go_upto_if 168 with (first | ((with_reducible refine gf 66 ?_); refine gc Tryd.func66 (some 123) (spec_CtlRead.calls _ _ _ _ _ _ _ _ A60.out) ?_; rintro e w128 ⟨rfl, hb⟩; refine ⟨_, rfl, ?_⟩; replace HO_5 := Aside0.mk (Kd.R_below (ro HO_5) hb); replace BK699 := b_ BK699 hb; replace HB := hs hb; try clear hb) | ((with_reducible refine gd 15 ?_); refine bx 15 91 #[.int .i64 0, .int .i64 0, .int .u32 0, .int .i64 0] ?_; clear HB; intro gb725 w129 hg BK725 hb GE725 HB; replace HO_5 := Aside0.mk (Kd.R_below (ro HO_5) hb); have NB699_725 := nl BK699 hg; have NB725_699 := ng BK699 hg; replace BK699 := b_ BK699 hb; clear hb hg; have hnb130 := NB725_699.out; have hnc130 := NB699_725.out; obtain ⟨z131_0, z131_1, z131_2, z131_3⟩ := ca4 BK725; obtain ⟨f131_0, f131_1, f131_2, f131_3⟩ := fa4 BK725; obtain ⟨Ao132, co132, eo132⟩ := Kd.R_slice HO_5.out; subst eo132; have p726 : 0 ≤ (x14_4 : Int) := of_decide_eq_true as_; have q726 : x14_4 < (x5_3.length : Int) := of_decide_eq_true as_; obtain ⟨ad726, e726, hx726_0⟩ := Kd.at_int (Kd.R_reads' HO_5.out).2.2 x14_4 p726 q726; cases e726; have hn726_0 : ad726.block ≠ gb725 := Kd.own_blk (Kd.R_ne HO_5.out BK725.out (by decide)); have hn726_1 : ad726.block ≠ gb725 := Kd.own_blk (Kd.R_ne HO_5.out BK725.out (by decide)); have hn726_2 : ad726.block ≠ gb725 := Kd.own_blk (Kd.R_ne HO_5.out BK725.out (by decide)); have hn726_3 : ad726.block ≠ gb725 := Kd.own_blk (Kd.R_ne HO_5.out BK725.out (by decide)); replace hx726_0 := (cell_far (p := ⟨gb725, 0, none⟩) (ab hn726_0) (.int .i64 t720)).trans hx726_0; replace hx726_0 := (cell_far (p := ⟨gb725, 1, none⟩) (ab hn726_1) (.int .i64 t721)).trans hx726_0; replace hx726_0 := (cell_far (p := ⟨gb725, 2, none⟩) (ab hn726_2) (.int .u32 t722)).trans hx726_0; replace hx726_0 := (cell_far (p := ⟨gb725, 3, none⟩) (ab hn726_3) (.int .i64 t723)).trans hx726_0; clear hn726_0; clear hn726_1; clear hn726_2; clear hn726_3; replace p726 := eq_true p726; replace q726 := eq_true q726; have p729 : 0 ≤ (x14_4 : Int) := of_decide_eq_true as_; have q729 : x14_4 < (x5_3.length : Int) := of_decide_eq_true as_; obtain ⟨ad729, e729, hx729_0⟩ := Kd.at_int (Kd.R_reads' HO_5.out).2.2 x14_4 p729 q729; obtain rfl : ad726 = ad729 := (by injection e729); have hn729_0 : ad726.block ≠ gb725 := Kd.own_blk (Kd.R_ne HO_5.out BK725.out (by decide)); have hn729_1 : ad726.block ≠ gb725 := Kd.own_blk (Kd.R_ne HO_5.out BK725.out (by decide)); have hn729_2 : ad726.block ≠ gb725 := Kd.own_blk (Kd.R_ne HO_5.out BK725.out (by decide)); have hn729_3 : ad726.block ≠ gb725 := Kd.own_blk (Kd.R_ne HO_5.out BK725.out (by decide)); replace hx729_0 := (cell_far (p := ⟨gb725, 0, none⟩) (ab hn729_0) (.int .i64 t720)).trans hx729_0; replace hx729_0 := (cell_far (p := ⟨gb725, 1, none⟩) (ab hn729_1) (.int .i64 t721)).trans hx729_0; replace hx729_0 := (cell_far (p := ⟨gb725, 2, none⟩) (ab hn729_2) (.int .u32 t722)).trans hx729_0; replace hx729_0 := (cell_far (p := ⟨gb725, 3, none⟩) (ab hn729_3) (.int .i64 t723)).trans hx729_0; clear hn729_0; clear hn729_1; clear hn729_2; clear hn729_3; replace p729 := eq_true p729; replace q729 := eq_true q729; have p731 : 0 ≤ (x14_4 : Int) := of_decide_eq_true as_; have q731 : x14_4 < (x5_3.length : Int) := of_decide_eq_true as_; obtain ⟨ad731, e731, hx731_0⟩ := Kd.at_int (Kd.R_reads' HO_5.out).2.2 x14_4 p731 q731; obtain rfl : ad726 = ad731 := (by injection e731); have hn731_0 : ad726.block ≠ gb725 := Kd.own_blk (Kd.R_ne HO_5.out BK725.out (by decide)); have hn731_1 : ad726.block ≠ gb725 := Kd.own_blk (Kd.R_ne HO_5.out BK725.out (by decide)); have hn731_2 : ad726.block ≠ gb725 := Kd.own_blk (Kd.R_ne HO_5.out BK725.out (by decide)); have hn731_3 : ad726.block ≠ gb725 := Kd.own_blk (Kd.R_ne HO_5.out BK725.out (by decide)); replace hx731_0 := (cell_far (p := ⟨gb725, 0, none⟩) (ab hn731_0) (.int .i64 t720)).trans hx731_0; replace hx731_0 := (cell_far (p := ⟨gb725, 1, none⟩) (ab hn731_1) (.int .i64 t721)).trans hx731_0; replace hx731_0 := (cell_far (p := ⟨gb725, 2, none⟩) (ab hn731_2) (.int .u32 t722)).trans hx731_0; replace hx731_0 := (cell_far (p := ⟨gb725, 3, none⟩) (ab hn731_3) (.int .i64 t723)).trans hx731_0; clear hn731_0; clear hn731_1; clear hn731_2; clear hn731_3; replace p731 := eq_true p731; replace q731 := eq_true q731))
                    (try refine ap ?_)
                    have H := HU126.out
                    clear HU126
                    replace H := ieq H
                    rcases H with ⟨c133b0, c133b1, H⟩ | ⟨c133, c133b0, c133b1, H⟩
                    ·(first | rw [c133b0] | (simp only [i64_w, i32_w]; rw [c133b0]) | (simp only [c133b2, Bool.not_true, Bool.not_false]) | (simp only [c133b1, Bool.not_true, Bool.not_false]) | skip)
                     have H' := Aside0.mk H
                     clear H
                     go_wp2
                     go_roundg k4
                     case measure => have := HK1.out; have := HK2.out; have := HK3.out; have := HK4.out; omega
                     case rel => exact ⟨(wrap64 (x14_4 + 1)), ev, H', ⟨by have := HK1.out; have := HK2.out; have := HK3.out; have := HK4.out; omega⟩, ⟨by (with_reducible repeat (first | apply Kd.R_alloc | apply Kd.R_drewN | apply Kd.R_drew)); exact Kd.R_mono (Kd.R_far (p := ⟨gb725, 3, none⟩) (Kd.R_far (p := ⟨gb725, 2, none⟩) (Kd.R_far (p := ⟨gb725, 1, none⟩) (Kd.R_far (p := ⟨gb725, 0, none⟩) (Kd.R_types HO_5.out BK725.out (by decide)) (fun _ hk => hk.2) (.int .i64 t720)) (fun _ hk => hk.2) (.int .i64 t721)) (fun _ hk => hk.2) (.int .u32 t722)) (fun _ hk => hk.2) (.int .i64 t723)) (fun _ hk => trivial)⟩, ⟨bk BK699⟩, ⟨bw⟩⟩
                    ·(first | rw [c133b0] | (simp only [i64_w, i32_w]; rw [c133b0]) | (simp only [c133b2, Bool.not_true, Bool.not_false]) | (simp only [c133b1, Bool.not_true, Bool.not_false]) | skip)
                     simp only [Option.some.injEq, Prod.mk.injEq] at H
                     obtain ⟨rfl, rfl⟩ := H
                     go_wp2
                     go_ret2
                     exact ⟨_, rt, by first | exact Kd.R_nil _ _ _ _ _ | exact Kd.N_nil _ _ _ _ _ | exact Kd.V_nil _ _ _ _ _ | exact Kd.Q_nil _ _ _ _ _ | exact Kd.S_nil _ _ _ _ _, bw⟩
                  ·have H' := Aside0.mk H
                   clear H
                   obtain ⟨z134_0, z134_1⟩ := ca2 BK699
                   obtain ⟨f134_0, f134_1⟩ := fa2 BK699
                   have p719 : 0 ≤ (x14_4 : Int) := of_decide_eq_true as_
                   have q719 : x14_4 < (l0_0.length : Int) := of_decide_eq_true as_
                   obtain ⟨ad719, e719, hx719_0⟩ := Kd.at_int HR0_0.out x14_4 p719 q719
                   cases e719
                   replace hx719_0 := cl HB hx719_0
                   replace p719 := eq_true p719
                   replace q719 := eq_true q719
                   go_wp2_with (first | ((with_reducible refine gf 66 ?_); refine gc Tryd.func66 (some 123) (spec_CtlRead.calls _ _ _ _ _ _ _ _ A60.out) ?_; rintro e w135 ⟨rfl, hb⟩; refine ⟨_, rfl, ?_⟩; replace HO_5 := Aside0.mk (Kd.R_below (ro HO_5) hb); replace BK699 := b_ BK699 hb; replace HB := hs hb; try clear hb) | ((with_reducible refine gd 15 ?_); refine bx 15 91 #[.int .i64 0, .int .i64 0, .int .u32 0, .int .i64 0] ?_; clear HB; intro gb725 w136 hg BK725 hb GE725 HB; replace HO_5 := Aside0.mk (Kd.R_below (ro HO_5) hb); have NB699_725 := nl BK699 hg; have NB725_699 := ng BK699 hg; replace BK699 := b_ BK699 hb; clear hb hg; have hnb137 := NB725_699.out; have hnc137 := NB699_725.out; obtain ⟨z138_0, z138_1, z138_2, z138_3⟩ := ca4 BK725; obtain ⟨f138_0, f138_1, f138_2, f138_3⟩ := fa4 BK725; obtain ⟨Ao139, co139, eo139⟩ := Kd.R_slice HO_5.out; subst eo139; have p726 : 0 ≤ (x14_4 : Int) := of_decide_eq_true as_; have q726 : x14_4 < (x5_3.length : Int) := of_decide_eq_true as_; obtain ⟨ad726, e726, hx726_0⟩ := Kd.at_int (Kd.R_reads' HO_5.out).2.2 x14_4 p726 q726; cases e726; have hn726_0 : ad726.block ≠ gb725 := Kd.own_blk (Kd.R_ne HO_5.out BK725.out (by decide)); have hn726_1 : ad726.block ≠ gb725 := Kd.own_blk (Kd.R_ne HO_5.out BK725.out (by decide)); have hn726_2 : ad726.block ≠ gb725 := Kd.own_blk (Kd.R_ne HO_5.out BK725.out (by decide)); have hn726_3 : ad726.block ≠ gb725 := Kd.own_blk (Kd.R_ne HO_5.out BK725.out (by decide)); replace hx726_0 := (cell_far (p := ⟨gb725, 0, none⟩) (ab hn726_0) (.int .i64 t720)).trans hx726_0; replace hx726_0 := (cell_far (p := ⟨gb725, 1, none⟩) (ab hn726_1) (.int .i64 t721)).trans hx726_0; replace hx726_0 := (cell_far (p := ⟨gb725, 2, none⟩) (ab hn726_2) (.int .u32 t722)).trans hx726_0; replace hx726_0 := (cell_far (p := ⟨gb725, 3, none⟩) (ab hn726_3) (.int .i64 t723)).trans hx726_0; clear hn726_0; clear hn726_1; clear hn726_2; clear hn726_3; replace p726 := eq_true p726; replace q726 := eq_true q726; have p729 : 0 ≤ (x14_4 : Int) := of_decide_eq_true as_; have q729 : x14_4 < (x5_3.length : Int) := of_decide_eq_true as_; obtain ⟨ad729, e729, hx729_0⟩ := Kd.at_int (Kd.R_reads' HO_5.out).2.2 x14_4 p729 q729; obtain rfl : ad726 = ad729 := (by injection e729); have hn729_0 : ad726.block ≠ gb725 := Kd.own_blk (Kd.R_ne HO_5.out BK725.out (by decide)); have hn729_1 : ad726.block ≠ gb725 := Kd.own_blk (Kd.R_ne HO_5.out BK725.out (by decide)); have hn729_2 : ad726.block ≠ gb725 := Kd.own_blk (Kd.R_ne HO_5.out BK725.out (by decide)); have hn729_3 : ad726.block ≠ gb725 := Kd.own_blk (Kd.R_ne HO_5.out BK725.out (by decide)); replace hx729_0 := (cell_far (p := ⟨gb725, 0, none⟩) (ab hn729_0) (.int .i64 t720)).trans hx729_0; replace hx729_0 := (cell_far (p := ⟨gb725, 1, none⟩) (ab hn729_1) (.int .i64 t721)).trans hx729_0; replace hx729_0 := (cell_far (p := ⟨gb725, 2, none⟩) (ab hn729_2) (.int .u32 t722)).trans hx729_0; replace hx729_0 := (cell_far (p := ⟨gb725, 3, none⟩) (ab hn729_3) (.int .i64 t723)).trans hx729_0; clear hn729_0; clear hn729_1; clear hn729_2; clear hn729_3; replace p729 := eq_true p729; replace q729 := eq_true q729; have p731 : 0 ≤ (x14_4 : Int) := of_decide_eq_true as_; have q731 : x14_4 < (x5_3.length : Int) := of_decide_eq_true as_; obtain ⟨ad731, e731, hx731_0⟩ := Kd.at_int (Kd.R_reads' HO_5.out).2.2 x14_4 p731 q731; obtain rfl : ad726 = ad731 := (by injection e731); have hn731_0 : ad726.block ≠ gb725 := Kd.own_blk (Kd.R_ne HO_5.out BK725.out (by decide)); have hn731_1 : ad726.block ≠ gb725 := Kd.own_blk (Kd.R_ne HO_5.out BK725.out (by decide)); have hn731_2 : ad726.block ≠ gb725 := Kd.own_blk (Kd.R_ne HO_5.out BK725.out (by decide)); have hn731_3 : ad726.block ≠ gb725 := Kd.own_blk (Kd.R_ne HO_5.out BK725.out (by decide)); replace hx731_0 := (cell_far (p := ⟨gb725, 0, none⟩) (ab hn731_0) (.int .i64 t720)).trans hx731_0; replace hx731_0 := (cell_far (p := ⟨gb725, 1, none⟩) (ab hn731_1) (.int .i64 t721)).trans hx731_0; replace hx731_0 := (cell_far (p := ⟨gb725, 2, none⟩) (ab hn731_2) (.int .u32 t722)).trans hx731_0; replace hx731_0 := (cell_far (p := ⟨gb725, 3, none⟩) (ab hn731_3) (.int .i64 t723)).trans hx731_0; clear hn731_0; clear hn731_1; clear hn731_2; clear hn731_3; replace p731 := eq_true p731; replace q731 := eq_true q731))
                   go_roundg k4
                   case measure => have := HK1.out; have := HK2.out; have := HK3.out; have := HK4.out; omega
                   case rel => exact ⟨(wrap64 (x14_4 + 1)), ev, H', ⟨by have := HK1.out; have := HK2.out; have := HK3.out; have := HK4.out; omega⟩, ⟨by (with_reducible repeat (first | apply Kd.R_alloc | apply Kd.R_drewN | apply Kd.R_drew)); exact Kd.R_mono (Kd.R_far (p := ⟨gb725, 3, none⟩) (Kd.R_far (p := ⟨gb725, 2, none⟩) (Kd.R_far (p := ⟨gb725, 1, none⟩) (Kd.R_far (p := ⟨gb725, 0, none⟩) (Kd.R_types HO_5.out BK725.out (by decide)) (fun _ hk => hk.2) (.int .i64 t720)) (fun _ hk => hk.2) (.int .i64 t721)) (fun _ hk => hk.2) (.int .u32 t722)) (fun _ hk => hk.2) (.int .i64 t723)) (fun _ hk => trivial)⟩, ⟨bk BK699⟩, ⟨bw⟩⟩
               ·rw [if_neg c61] at H
                exact absurd H (by simp)
              ·rw [if_neg c59] at H
               exact absurd H (by simp)
             ·rw [if_neg c58] at H
              exact absurd H (by simp)
            ·simp only [Option.some.injEq, Prod.mk.injEq] at H
             obtain ⟨rfl, rfl⟩ := H
             go_wp2
             go_ret2
             exact ⟨_, rt, ro HO_5, bw⟩

end Go.Proofs.YtfhcnnkeokjfpaaDoor.PM1
namespace Go.Proofs.YtfhcnnkeokjfpaaDoor.PM1
open Go.RowKit Go.Proofs.YtfhcnnkeokjfpaaDoorW.PrintWords Go.Proofs.YtfhcnnkeokjfpaaDoorW.PrintLast Go.Proofs.YtfhcnnkeokjfpaaDoorW.PrintMore Go.Proofs.YtfhcnnkeokjfpaaDoor.T
attribute [local go_sem] max2_int min2_int max_two min_two max_three min_three max_four min_four   -- for this text's walks alone
set_option linter.unusedVariables false
set_option linter.unusedSimpArgs false

/-! ### spec_MachOk: function 24 -/
mutual
def spec_MachOk.j0 : Nat → Bool → List Int → List (S28) → Option (Bool)
 | 0, _, _, _ => none
 | k + 1, x21, x733000, x733001 => if x21 = true then (some false) else (spec_MachOk.l0 k 0 x733000 x733001)
def spec_MachOk.l0 : Nat → Int → List Int → List (S28) → Option (Bool)
 | 0, _, _, _ => none
 | k + 1, x3, x733000, x733001 => if x3 < (x733001.length : Int) then (if 0 ≤ x3 then ((spec_WarpOk.f k ((rd_T28 x733001 x3).f0) ((rd_T28 x733001 x3).f1) ((rd_T28 x733001 x3).f2) ((rd_T28 x733001 x3).f3) ((rd_T28 x733001 x3).f4) ((rd_T28 x733001 x3).f5) ((rd_T28 x733001 x3).f6) ((rd_T28 x733001 x3).f7) (x733000.length : Int)).bind fun t735 => (if t735 = true then (spec_MachOk.l0 k (wrap64 (x3 + 1)) x733000 x733001) else (some false))) else (none)) else ((spec_l08Owners.f k x733000 x733001).bind fun bt736 => (some bt736.2))
end
def spec_MachOk.f (k : Nat) (l0_0 : List Int) (l0_1 : List (S28)) : Option (Bool) := (spec_l07MemOk.f k l0_0).bind fun t733 => (if t733 = true then (if (l0_1.length : Int) < 1 then (spec_MachOk.j0 k true l0_0 l0_1) else (spec_MachOk.j0 k (decide ((l0_1.length : Int) > 4)) l0_0 l0_1)) else (spec_MachOk.j0 k true l0_0 l0_1))
theorem spec_MachOk.mono_l : ∀ k, (∀ y0 y1 y2, LeO (spec_MachOk.j0 k y0 y1 y2) (spec_MachOk.j0 (k + 1) y0 y1 y2)) ∧ (∀ y0 y1 y2, LeO (spec_MachOk.l0 k y0 y1 y2) (spec_MachOk.l0 (k + 1) y0 y1 y2))
 | 0 => ⟨fun _ _ _ r h => by simp [spec_MachOk.j0] at h, fun _ _ _ r h => by simp [spec_MachOk.l0] at h⟩
 | k + 1 => by
  obtain ⟨ih0, ih1⟩ := spec_MachOk.mono_l k
  refine ⟨?_, ?_⟩
  ·intro y0 y1 y2
   unfold spec_MachOk.j0
   repeat' first
    | (with_reducible first | exact ih0 .. | exact ih1 .. | exact spec_WarpOk.mono .. | exact spec_l07MemOk.mono .. | exact spec_l08Owners.mono .. | exact LeO.refl _ | exact LeO.none _ | refine LeO.ite ?_ ?_ | refine LeO.bind ?_ (fun _ => ?_))
    | exact LeO.none _ | refine LeO.ite ?_ ?_ | refine LeO.bind ?_ (fun _ => ?_)
  ·intro y0 y1 y2
   unfold spec_MachOk.l0
   repeat' first
    | (with_reducible first | exact ih0 .. | exact ih1 .. | exact spec_WarpOk.mono .. | exact spec_l07MemOk.mono .. | exact spec_l08Owners.mono .. | exact LeO.refl _ | exact LeO.none _ | refine LeO.ite ?_ ?_ | refine LeO.bind ?_ (fun _ => ?_))
    | exact LeO.none _ | refine LeO.ite ?_ ?_ | refine LeO.bind ?_ (fun _ => ?_)
theorem spec_MachOk.mono : ∀ a0 a1 k, LeO (spec_MachOk.f k a0 a1) (spec_MachOk.f (k + 1) a0 a1) := by
 intro a0 a1 k
 obtain ⟨ih0, ih1⟩ := spec_MachOk.mono_l k
 unfold spec_MachOk.f
 repeat' first
  | (with_reducible first | exact ih0 .. | exact ih1 .. | exact spec_WarpOk.mono .. | exact spec_l07MemOk.mono .. | exact spec_l08Owners.mono .. | exact LeO.refl _ | exact LeO.none _ | refine LeO.ite ?_ ?_ | refine LeO.bind ?_ (fun _ => ?_))
  | exact LeO.none _ | refine LeO.ite ?_ ?_ | refine LeO.bind ?_ (fun _ => ?_)
def spec_MachOk.T6 : Bool × List (List Nat × List Nat) := (true, [([], []), ([0], [0]), ([], []), ([1, 2], [1, 2]), ([3], [3]), ([], []), ([5], [5]), ([6], [6]), ([7], [7]), ([4, 8], [4, 8]), ([9], [9])])
def spec_MachOk.B6 : List Nat := [0, 1, 0, 7, 15, 0, 32, 96, 224, 511, 1023]
theorem spec_MachOk.tab6 : rtab .any (opsOf Tryd.f24 6) = spec_MachOk.T6 := kr
theorem spec_MachOk.bits6 : waitsOk spec_MachOk.T6.2 spec_MachOk.B6 = true := kr
set_option maxHeartbeats 8000000 in
set_option maxRecDepth 100000 in
theorem spec_MachOk.calls (k : Nat) (A0_0 : Option Addr) (c0_0 : Nat) (l0_0 : List Int) (A0_1 : Option Addr) (c0_1 : Nat) (l0_1 : List (S28)) (r : Bool) (w : World) (hr0_0 : Kd.C (Kd.int .u32) w A0_0 l0_0.length l0_0) (hc0_0 : l0_0.length ≤ c0_0) (hr0_1 : Kd.C k28 w A0_1 l0_1.length l0_1) (hc0_1 : l0_1.length ≤ c0_1) (h : spec_MachOk.f k l0_0 l0_1 = some r) :
  Calls Tryd.prog 24 #[.agg #[.slice A0_0 l0_0.length c0_0, .slice A0_1 l0_1.length c0_1]] w fun e w' => e = .returned (.bool r) ∧ Below w.heap.size w w' := by
 have hu56 := Tryd.underlying56
 have hu53 := Tryd.underlying53
 have hu28 := Tryd.underlying28
 have HR0_0 := Aside0.mk hr0_0
 have HC0_0 := Aside0.mk hc0_0
 clear hr0_0 hc0_0
 have HR0_1 := Aside0.mk hr0_1
 have HC0_1 := Aside0.mk hc0_1
 clear hr0_1 hc0_1
 have HB := Aside0.mk (Below.refl w.heap.size w)
 unfold spec_MachOk.f at h
 have H := h
 clear h
 have HC2 := Aside0.mk H
 clear H
 go_enter Tryd.func24, Tryd.ntmps24
 go_upto_region 1 with (first | ((with_reducible refine gate_dst (N := 1) rfl ?_); (try (refine gate_guard (by rfl) ?_; dsimp only)); refine box_event ?hg (N := 1) ?hd (cs := #[.slice A0_0 l0_0.length c0_0, .slice A0_1 l0_1.length c0_1]) (t := 56) ?hr ?_; (case hd => rfl); (case hg => rfl); (case hr => first | (go_simp; done) | (go_simp; rfl)); intro gb732 hg w3 hbox hb; have BK732 := Aside0.mk hbox; have GW732 := bz hg; have GE732 := bz hg; replace HB := hs hb; clear hb hbox hg))
 (try refine ap ?_)
 go_cut [21] (fun v21 wc => ∃ (kq : Nat) (x21_1 : Bool), v21 = .bool x21_1 ∧ Aside0 (spec_MachOk.j0 kq x21_1 l0_0 l0_1 = some r) ∧ Aside0 (kq ≤ k) ∧ Aside0 (wc.heap[gb732]? = some (.cells #[(.slice A0_0 l0_0.length c0_0), (.slice A0_1 l0_1.length c0_1)] 56 (0, 0))) ∧ Aside0 (Below w.heap.size w wc))
 case first =>
  have H := HC2.out
  clear HC2
  replace H := bn H
  obtain ⟨t733, A4, H⟩ := H
  try dsimp only at H
  replace H := ib H
  rcases H with ⟨rfl, H⟩ | ⟨rfl, H⟩
  ·(try simp only [Bool.not_true, Bool.not_false])
   by_cases c6 : (l0_1.length : Int) < 1
   ·rw [if_pos c6] at H
    have c6b0 : decide ((l0_1.length : Int) < 1) = true := decide_eq_true c6
    have c6b1 : decide (l0_1.length < 1) = true := decide_eq_true (by omega)
    clear c6
    have H' := Aside0.mk H
    clear H
    obtain ⟨z7_0, z7_1⟩ := ca2 BK732
    obtain ⟨f7_0, f7_1⟩ := fa2 BK732
    go_wp2_with (first | ((with_reducible refine gf 54 ?_); refine gc Tryd.func54 (some 8) (spec_l07MemOk.calls _ A0_0 c0_0 _ _ _ (cb HR0_0) HC0_0.out A4.out) ?_; rintro e w8 ⟨rfl, hb⟩; refine ⟨_, rfl, ?_⟩; replace BK732 := b_ BK732 hb; replace HB := hs hb; try clear hb; obtain ⟨z9_0, z9_1⟩ := ca2 BK732; obtain ⟨f9_0, f9_1⟩ := fa2 BK732))
    go_meet
    case rel => exact ⟨_, (true), ev, H', ⟨om⟩, ⟨bk BK732⟩, ⟨bw⟩⟩
   ·rw [if_neg c6] at H
    have c6b0 : decide ((l0_1.length : Int) < 1) = false := decide_eq_false c6
    have c6b1 : decide (l0_1.length < 1) = false := decide_eq_false (by omega)
    clear c6
    have H' := Aside0.mk H
    clear H
    obtain ⟨z10_0, z10_1⟩ := ca2 BK732
    obtain ⟨f10_0, f10_1⟩ := fa2 BK732
    go_wp2_with (first | ((with_reducible refine gf 54 ?_); refine gc Tryd.func54 (some 8) (spec_l07MemOk.calls _ A0_0 c0_0 _ _ _ (cb HR0_0) HC0_0.out A4.out) ?_; rintro e w11 ⟨rfl, hb⟩; refine ⟨_, rfl, ?_⟩; replace BK732 := b_ BK732 hb; replace HB := hs hb; try clear hb; obtain ⟨z12_0, z12_1⟩ := ca2 BK732; obtain ⟨f12_0, f12_1⟩ := fa2 BK732))
    go_meet
    case rel => exact ⟨_, (decide ((l0_1.length : Int) > 4)), ev, H', ⟨om⟩, ⟨bk BK732⟩, ⟨bw⟩⟩
  ·(try simp only [Bool.not_true, Bool.not_false])
   have H' := Aside0.mk H
   clear H
   obtain ⟨z13_0, z13_1⟩ := ca2 BK732
   obtain ⟨f13_0, f13_1⟩ := fa2 BK732
   go_wp2_with (first | ((with_reducible refine gf 54 ?_); refine gc Tryd.func54 (some 8) (spec_l07MemOk.calls _ A0_0 c0_0 _ _ _ (cb HR0_0) HC0_0.out A4.out) ?_; rintro e w14 ⟨rfl, hb⟩; refine ⟨_, rfl, ?_⟩; replace BK732 := b_ BK732 hb; replace HB := hs hb; try clear hb))
   go_meet
   case rel => exact ⟨_, (true), ev, H', ⟨om⟩, ⟨bk BK732⟩, ⟨bw⟩⟩
 case rest =>
  clear HC2
  obtain ⟨kq, x21_1, rfl, HA, HJ1, BK732, HB⟩ := hcut
  cases kq with
  | zero => exact absurd HA.out (by simp [spec_MachOk.j0])
  | succ kj1 =>
   have H := HA.out
   clear HA
   simp only [spec_MachOk.j0] at H
   replace H := ib H
   rcases H with ⟨rfl, H⟩ | ⟨rfl, H⟩
   ·obtain rfl := Option.some.inj H
    go_wp2
    go_ret
    exact ⟨rt, bw⟩
   ·have H' := Aside0.mk H
    clear H
    go_wp2
    go_loopg [3] kj1 (fun kq v3 w' => ∃ (x3_2 : Int), v3 = .int .i64 x3_2 ∧ Aside0 (spec_MachOk.l0 kq x3_2 l0_0 l0_1 = some r) ∧ Aside0 (kq ≤ kj1) ∧ Aside0 (w'.heap[gb732]? = some (.cells #[(.slice A0_0 l0_0.length c0_0), (.slice A0_1 l0_1.length c0_1)] 56 (0, 0))) ∧ Aside0 (Below w.heap.size w w'))
    case atStart => exact ⟨(0), ev, H', ⟨Nat.le_refl _⟩, ⟨bk BK732⟩, ⟨bw⟩⟩
    case round =>
     clear H'
     try clear c15
     obtain ⟨x3_2, rfl, HA, HK2, BK732, HB⟩ := hrel
     cases gk with
     | zero => exact absurd HA.out (by simp [spec_MachOk.l0])
     | succ k2 =>
      have H := HA.out
      clear HA
      simp only [spec_MachOk.l0] at H
      replace H := ilt H
      rcases H with ⟨c16b0, H⟩ | ⟨c16b0, H⟩
      ·by_cases c17 : 0 ≤ x3_2
       ·rw [if_pos c17] at H
        have c17b0 : decide (0 ≤ x3_2) = true := decide_eq_true c17
        clear c17
        replace H := bn H
        obtain ⟨t735, A18, H⟩ := H
        try dsimp only at H
        have HU19 := Aside0.mk H
        clear H
        obtain ⟨z20_0, z20_1⟩ := ca2 BK732
        obtain ⟨f20_0, f20_1⟩ := fa2 BK732
        try go_wp2
        replace BK732 := bd BK732
        replace HB := hd HB
        have p734 : 0 ≤ (x3_2 : Int) := of_decide_eq_true as_
        have q734 : x3_2 < (l0_1.length : Int) := of_decide_eq_true as_
        obtain ⟨ad734, A734_1, c734_1, A734_2, c734_2, e734, hx734_0, hx734_1, hx734_2, hx734_3, hx734_4, hx734_5, hx734_6, hx734_7, hl734_1, hi734_1, hl734_2, hi734_2⟩ := at_T28 HR0_1.out x3_2 p734 q734
        have hw734_7 := hx734_7
        have hw734_6 := hx734_6
        have hw734_5 := hx734_5
        have hw734_4 := hx734_4
        have hw734_3 := hx734_3
        have hw734_2 := hx734_2
        have hw734_1 := hx734_1
        have hw734_0 := hx734_0
        cases e734
        replace hx734_0 := cl HB hx734_0
        replace hx734_1 := cl HB hx734_1
        replace hx734_2 := cl HB hx734_2
        replace hx734_3 := cl HB hx734_3
        replace hx734_4 := cl HB hx734_4
        replace hx734_5 := cl HB hx734_5
        replace hx734_6 := cl HB hx734_6
        replace hx734_7 := cl HB hx734_7
        have HR734_1 := Aside0.mk hi734_1
        have HC734_1 := Aside0.mk hl734_1
        clear hi734_1 hl734_1
        have HR734_2 := Aside0.mk hi734_2
        have HC734_2 := Aside0.mk hl734_2
        clear hi734_2 hl734_2
        replace p734 := eq_true p734
        replace q734 := eq_true q734
        refine st 11 (fun w' => CA w' gb732 0 [.slice A0_0 l0_0.length c0_0, .slice (some ad734) l0_1.length c0_1] ∧ w'.cell? (ad734.add ((x3_2).toNat * 8)) = some (.int .i64 ((rd_T28 l0_1 x3_2).f0)) ∧ w'.cell? ⟨(ad734.add ((x3_2).toNat * 8)).block, (ad734.add ((x3_2).toNat * 8)).off + 1, none⟩ = some (.slice A734_1 ((rd_T28 l0_1 x3_2).f1).length c734_1) ∧ w'.cell? ⟨(ad734.add ((x3_2).toNat * 8)).block, (ad734.add ((x3_2).toNat * 8)).off + 2, none⟩ = some (.slice A734_2 ((rd_T28 l0_1 x3_2).f2).length c734_2) ∧ w'.cell? ⟨(ad734.add ((x3_2).toNat * 8)).block, (ad734.add ((x3_2).toNat * 8)).off + 3, none⟩ = some (.int .u32 ((rd_T28 l0_1 x3_2).f3)) ∧ w'.cell? ⟨(ad734.add ((x3_2).toNat * 8)).block, (ad734.add ((x3_2).toNat * 8)).off + 4, none⟩ = some (.int .i64 ((rd_T28 l0_1 x3_2).f4)) ∧ w'.cell? ⟨(ad734.add ((x3_2).toNat * 8)).block, (ad734.add ((x3_2).toNat * 8)).off + 5, none⟩ = some (.int .i64 ((rd_T28 l0_1 x3_2).f5)) ∧ w'.cell? ⟨(ad734.add ((x3_2).toNat * 8)).block, (ad734.add ((x3_2).toNat * 8)).off + 6, none⟩ = some (.int .i64 ((rd_T28 l0_1 x3_2).f6)) ∧ w'.cell? ⟨(ad734.add ((x3_2).toNat * 8)).block, (ad734.add ((x3_2).toNat * 8)).off + 7, none⟩ = some (.int .u32 ((rd_T28 l0_1 x3_2).f7))) [] ⟨cx BK732, (cl HB hw734_0 :), (cl HB hw734_1 :), (cl HB hw734_2 :), (cl HB hw734_3 :), (cl HB hw734_4 :), (cl HB hw734_5 :), (cl HB hw734_6 :), (cl HB hw734_7 :)⟩ spec_MachOk.tab6 spec_MachOk.bits6 ?_; intro hHeld HT_ HW_
        generalize wr.drew = w21 at BK732 HB HR734_1 HR734_2 hx734_0 hx734_1 hx734_2 hx734_3 hx734_4 hx734_5 hx734_6 hx734_7 hHeld ⊢
        refine pu 0 29 (bl 11 1) ?_
        refine pu 2 31 (bl 11 5) ?_
        refine pu 5 34 (bl 11 37) ?_
        refine pu 6 35 (bl 11 101) ?_
        refine tk 1 30 (bl 11 103) ?_
        refine pu 3 32 (bl 11 111) ?_
        refine tk 4 33 (bl 11 127) ?_
        refine tk 7 36 (bl 11 255) ?_
        refine pu 8 37 (bl 11 511) ?_
        refine on_ 9 (some 38) (bl 11 1023) (fun K hK => ?_)
        refine gq Tryd.func9 (spec_WarpOk.calls _ _ A734_1 c734_1 _ A734_2 c734_2 _ _ _ _ _ _ _ _ _ (cb HR734_1) HC734_1.out (cb HR734_2) HC734_2.out A18.out) ?_
        rintro e w22 ⟨rfl, hb⟩
        refine ⟨_, rfl, ?_⟩
        replace BK732 := b_ BK732 hb
        replace HB := hs hb
        (try clear hb)
        refine hK.out _ _ ⟨cx BK732, (cl HB hw734_0 :), (cl HB hw734_1 :), (cl HB hw734_2 :), (cl HB hw734_3 :), (cl HB hw734_4 :), (cl HB hw734_5 :), (cl HB hw734_6 :), (cl HB hw734_7 :)⟩ (fun hHeld => ?_)
        clear hK K
        refine nm ?_
        refine pu 10 39 (bl 11 2047) ?_
        refine dn ?_ _
        go_upto_if 39 with (fail)
        have H := HU19.out
        clear HU19
        replace H := ib H
        rcases H with ⟨rfl, H⟩ | ⟨rfl, H⟩
        ·(try simp only [Bool.not_true, Bool.not_false])
         have H' := Aside0.mk H
         clear H
         go_wp2
         go_roundg k2
         case measure => have := HJ1.out; have := HK2.out; omega
         case rel => exact ⟨(wrap64 (x3_2 + 1)), ev, H', ⟨by have := HJ1.out; have := HK2.out; omega⟩, ⟨bk BK732⟩, ⟨bw⟩⟩
        ·(try simp only [Bool.not_true, Bool.not_false])
         obtain rfl := Option.some.inj H
         go_wp2
         go_ret
         exact ⟨rt, bw⟩
       ·rw [if_neg c17] at H
        exact absurd H (by simp)
      ·replace H := bn H
       obtain ⟨⟨t736, t739⟩, A24, H⟩ := H
       try dsimp only at H
       obtain rfl := Option.some.inj H
       obtain ⟨z25_0, z25_1⟩ := ca2 BK732
       obtain ⟨f25_0, f25_1⟩ := fa2 BK732
       go_wp2_with (first | ((with_reducible refine gf 55 ?_); refine gc Tryd.func55 (some 42) (spec_l08Owners.calls _ A0_0 c0_0 _ A0_1 c0_1 _ _ _ _ (cb HR0_0) HC0_0.out (cb HR0_1) HC0_1.out A24.out) ?_; rintro e w26 ⟨v737, rfl, ho0, hb⟩; refine ⟨_, rfl, ?_⟩; have HO738 := Aside0.mk (Kd.R_lower ho0 (below_size bw)); replace BK732 := b_ BK732 hb; replace HB := hs hb; try clear hb; (try clear ho0)))
       go_ret
       exact ⟨rt, bw⟩

/-! ### laws_toUint32S: function 90 -/
def laws_toUint32S.l0 : Nat → List Int → List Int → Int → Option (List Int)
 | 0, _, _, _ => none
 | k + 1, x0, x3, x4 => if x4 < (x0.length : Int) then (if 0 ≤ x4 then (if x4 < (x3.length : Int) then (laws_toUint32S.l0 k x0 (x3.set (x4 : Int).toNat (rd x0 x4)) (wrap64 (x4 + 1))) else (none)) else (none)) else (some x3)
def laws_toUint32S.f (k : Nat) (l0 : List Int) : Option (List Int) := if 0 ≤ (l0.length : Int) then (if ((l0.length : Int) : Int).toNat ≤ 70368744177664 then (laws_toUint32S.l0 k l0 (List.replicate ((l0.length : Int) : Int).toNat 0) 0) else (none)) else (none)
theorem laws_toUint32S.mono_l : ∀ k, (∀ y0 y1 y2, LeO (laws_toUint32S.l0 k y0 y1 y2) (laws_toUint32S.l0 (k + 1) y0 y1 y2))
 | 0 => fun _ _ _ r h => by simp [laws_toUint32S.l0] at h
 | k + 1 => by
  have ih0 := laws_toUint32S.mono_l k
  ·intro y0 y1 y2
   unfold laws_toUint32S.l0
   repeat' first
    | (with_reducible first | exact ih0 .. | exact LeO.refl _ | exact LeO.none _ | refine LeO.ite ?_ ?_ | refine LeO.bind ?_ (fun _ => ?_))
    | exact LeO.none _ | refine LeO.ite ?_ ?_ | refine LeO.bind ?_ (fun _ => ?_)
theorem laws_toUint32S.mono : ∀ a0 k, LeO (laws_toUint32S.f k a0) (laws_toUint32S.f (k + 1) a0) := by
 intro a0 k
 have ih0 := laws_toUint32S.mono_l k
 unfold laws_toUint32S.f
 repeat' first
  | (with_reducible first | exact ih0 .. | exact LeO.refl _ | exact LeO.none _ | refine LeO.ite ?_ ?_ | refine LeO.bind ?_ (fun _ => ?_))
  | exact LeO.none _ | refine LeO.ite ?_ ?_ | refine LeO.bind ?_ (fun _ => ?_)
set_option maxHeartbeats 8000000 in
set_option maxRecDepth 100000 in
theorem laws_toUint32S.calls (k : Nat) (A0 : Option Addr) (c0 : Nat) (l0 : List Int) (r : List Int) (w : World) (hr0 : Kd.C (Kd.int .u32) w A0 l0.length l0) (hc0 : l0.length ≤ c0) (h : laws_toUint32S.f k l0 = some r) :
  Calls Tryd.prog 90 #[.slice A0 l0.length c0] w fun e w' => ∃ v0_ : Value, e = .returned (v0_) ∧ Kd.R (Kd.int .u32) 23 w' w.heap.size (fun _ => True) v0_ r ∧ Below w.heap.size w w' := by
 have HR0 := Aside0.mk hr0
 have HC0 := Aside0.mk hc0
 clear hr0 hc0
 have HB := Aside0.mk (Below.refl w.heap.size w)
 unfold laws_toUint32S.f at h
 have H := h
 clear h
 by_cases c2 : 0 ≤ (l0.length : Int)
 ·rw [if_pos c2] at H
  have c2b0 := eq_true c2
  have c2b1 : decide (0 ≤ (l0.length : Int)) = true := decide_eq_true c2
  clear c2
  by_cases c3 : ((l0.length : Int) : Int).toNat ≤ 70368744177664
  ·rw [if_pos c3] at H
   have c3b0 := eq_true c3
   have c3b1 : decide (((l0.length : Int) : Int).toNat ≤ 70368744177664) = true := decide_eq_true c3
   clear c3
   obtain ⟨y740, hy740⟩ : ∃ y_ : List Int, y_ = (List.replicate ((l0.length : Int) : Int).toNat 0) := ⟨_, rfl⟩
   rw [← hy740] at H
   try with_reducible replace H := bs H
   have Ny740 := Aside0.mk hy740
   clear hy740
   have H' := Aside0.mk H
   clear H
   go_enter Tryd.func90, Tryd.ntmps90
   go_wp2_with (first | ((with_reducible refine gate_dst (N := 7) rfl ?_); refine Kd.R_make (Kd.int .u32) _ 23 rfl (N := 7) rfl 45 _ _ rfl (l0.length : Int) rfl rfl Tryd.underlying45 (.int .u32 0) 4 info23 rfl (by decide) (by omega) 0 (ok := fun _ => True) (okp := fun _ => True) rfl (fun _ hk => hk) trivial (of_decide_eq_true as_) (Nat.le_trans (Nat.mul_le_mul_right _ (of_decide_eq_true as_ : (l0.length : Int).toNat ≤ 70368744177664)) (by omega)) (Below.refl _ _) (Nat.le_refl _) ?_; intro v741 w4 ho5 hb hg_ hnew_; clear hg_ hnew_; (first | rw [← Ny740.out] at ho5 | (simp only [Int.reduceToNat] at ho5; rw [← Ny740.out] at ho5)); have HO742 := Aside0.mk (Kd.R_lower ho5 (below_size bw)); replace HB := hs hb; clear hb ho5))
   go_loopg [4] k (fun kq v4 w' => ∃ (x3_1 : List Int) (x4_1 : Int), v4 = .int .i64 x4_1 ∧ Aside0 (laws_toUint32S.l0 kq l0 x3_1 x4_1 = some r) ∧ Aside0 (kq ≤ k) ∧ Aside0 (Kd.R (Kd.int .u32) 23 w' w.heap.size (fun _ => True) v741 x3_1) ∧ Aside0 (Below w.heap.size w w'))
   case atStart => exact ⟨(y740), (0), ev, H', ⟨Nat.le_refl _⟩, ⟨ro HO742⟩, ⟨bw⟩⟩
   case round =>
    clear H'
    try clear c2
    try clear c2b0
    try clear c2b1
    try clear c3
    try clear c3b0
    try clear c3b1
    obtain ⟨x3_1, x4_1, rfl, HA, HK1, HO_3, HB⟩ := hrel
    cases gk with
    | zero => exact absurd HA.out (by simp [laws_toUint32S.l0])
    | succ k1 =>
     have H := HA.out
     clear HA
     simp only [laws_toUint32S.l0] at H
     replace H := ilt H
     rcases H with ⟨c6b0, H⟩ | ⟨c6b0, H⟩
     ·by_cases c7 : 0 ≤ x4_1
      ·rw [if_pos c7] at H
       have c7b0 : decide (0 ≤ x4_1) = true := decide_eq_true c7
       clear c7
       by_cases c8 : x4_1 < (x3_1.length : Int)
       ·rw [if_pos c8] at H
        have c8b0 : decide (x4_1 < (x3_1.length : Int)) = true := decide_eq_true c8
        clear c8
        obtain ⟨y744, hy744⟩ : ∃ y_ : List Int, y_ = (x3_1.set (x4_1 : Int).toNat (rd l0 x4_1)) := ⟨_, rfl⟩
        rw [← hy744] at H
        try with_reducible replace H := bs H
        have Ny744 := Aside0.mk hy744
        clear hy744
        have H' := Aside0.mk H
        clear H
        have p743 : 0 ≤ (x4_1 : Int) := of_decide_eq_true as_
        have q743 : x4_1 < (l0.length : Int) := of_decide_eq_true as_
        obtain ⟨ad743, e743, hx743_0⟩ := Kd.at_int HR0.out x4_1 p743 q743
        cases e743
        replace hx743_0 := cl HB hx743_0
        replace p743 := eq_true p743
        replace q743 := eq_true q743
        have p9 : 0 ≤ (x4_1 : Int) := of_decide_eq_true as_
        have q9 : (x4_1 : Int) < ((x3_1.length : Int) : Int) := of_decide_eq_true as_
        obtain ⟨go9, co9, eo9, gb9, gl9, cl9, HG9⟩ := Kd.R_form HO_3.out (by omega)
        (first | cases eo9 | (injection eo9 with ea_ en_ ec_; (first | subst ea_ | (injection ea_ with ea_; subst ea_)); subst ec_; clear en_))
        have GB9 := Aside0.mk gb9
        have GG9 := Aside0.mk HG9
        clear gb9 gl9 HG9
        obtain ⟨hx9_0, hf9_0⟩ := Kd.R_celln 0 HO_3.out (x4_1 : Int) p9 q9
        replace p9 := eq_true p9
        replace q9 := eq_true q9
        have HP10 := Kd.R_putg HO_3.out (x4_1 : Int) (rd l0 x4_1)
        go_wp2_with (first | ((with_reducible refine gate_store (t := 23) (p := 20) rfl ?_); refine store_event (t := 23) (p := 20) (v := ?vo_w11) (w1 := (wr.setCell ⟨go9, (x4_1 : Int).toNat, none⟩ (.int .u32 (rd l0 x4_1)))) ?hg ?ho ?hn ?hr ?_; (case ho => rfl); (case hg => rfl); (case hn => rfl); (case hr => first | (go_simp; done) | (go_simp; rfl)); intro w11 hw; have hg : wr.grownBy w11 (some go9) := (by rw [hw]; exact HP10.2); have hp_ : Kd.R (Kd.int .u32) 23 w11 w.heap.size (fun _ => True) (.slice (some ⟨go9, 0, none⟩) x3_1.length co9) y744 := (by rw [hw, Ny744.out]; exact HP10.1); clear HP10; replace HO_3 := Aside0.mk (hp_); replace HB := Aside0.mk ((by rw [hw]; exact below_set (HB.out) GB9.out : Below w.heap.size w w11)); clear hg hw hp_))
        go_roundg k1
        case measure => have := HK1.out; omega
        case rel => exact ⟨(y744), (wrap64 (x4_1 + 1)), ev, H', ⟨oa HK1⟩, ⟨ro HO_3⟩, ⟨bw⟩⟩
       ·rw [if_neg c8] at H
        exact absurd H (by simp)
      ·rw [if_neg c7] at H
       exact absurd H (by simp)
     ·obtain rfl := Option.some.inj H
      go_wp2
      go_ret
      exact ⟨_, rt, ro HO_3, bw⟩
  ·rw [if_neg c3] at H
   exact absurd H (by simp)
 ·rw [if_neg c2] at H
  exact absurd H (by simp)

/-! ### laws_toMem: function 56 -/
def laws_toMem.f (k : Nat) (l0_0 : List Int) : Option (List Int) := (laws_toUint32S.f k l0_0).bind fun t748 => (some t748)
theorem laws_toMem.mono : ∀ a0 k, LeO (laws_toMem.f k a0) (laws_toMem.f (k + 1) a0) := by
 intro a0 k
 unfold laws_toMem.f
 repeat' first
  | (with_reducible first | exact laws_toUint32S.mono .. | exact LeO.refl _ | exact LeO.none _ | refine LeO.ite ?_ ?_ | refine LeO.bind ?_ (fun _ => ?_))
  | exact LeO.none _ | refine LeO.ite ?_ ?_ | refine LeO.bind ?_ (fun _ => ?_)
set_option maxHeartbeats 8000000 in
set_option maxRecDepth 100000 in
theorem laws_toMem.calls (k : Nat) (A0_0 : Option Addr) (c0_0 : Nat) (l0_0 : List Int) (r : List Int) (w : World) (hr0_0 : Kd.C (Kd.int .u32) w A0_0 l0_0.length l0_0) (hc0_0 : l0_0.length ≤ c0_0) (h : laws_toMem.f k l0_0 = some r) :
  Calls Tryd.prog 56 #[.agg #[.slice A0_0 l0_0.length c0_0]] w fun e w' => ∃ v0_ : Value, e = .returned (.agg #[v0_]) ∧ Kd.R (Kd.int .u32) 23 w' w.heap.size (fun _ => True) v0_ r ∧ Below w.heap.size w w' := by
 have hu47 := Tryd.underlying47
 have hu53 := Tryd.underlying53
 have HR0_0 := Aside0.mk hr0_0
 have HC0_0 := Aside0.mk hc0_0
 clear hr0_0 hc0_0
 have HB := Aside0.mk (Below.refl w.heap.size w)
 unfold laws_toMem.f at h
 have H := h
 clear h
 replace H := bn H
 obtain ⟨t748, A2, H⟩ := H
 try dsimp only at H
 obtain rfl := Option.some.inj H
 go_enter Tryd.func56, Tryd.ntmps56
 go_wp2_with (first | ((with_reducible refine gd 1 ?_); refine bx 1 47 #[.slice A0_0 l0_0.length c0_0] ?_; clear HB; intro gb745 w3 hg BK745 hb GE745 HB; clear hb hg) | ((with_reducible refine gd 2 ?_); refine bx 2 53 #[.slice none 0 0] ?_; clear HB; intro gb746 w4 hg BK746 hb GE746 HB; have NB745_746 := nl BK745 hg; have NB746_745 := ng BK745 hg; replace BK745 := b_ BK745 hb; clear hb hg) | ((with_reducible refine gd 3 ?_); refine bx 3 53 #[.slice none 0 0] ?_; clear HB; intro gb747 w5 hg BK747 hb GE747 HB; have NB745_747 := nl BK745 hg; have NB747_745 := ng BK745 hg; replace BK745 := b_ BK745 hb; have NB746_747 := nl BK746 hg; have NB747_746 := ng BK746 hg; replace BK746 := b_ BK746 hb; clear hb hg; have hnb6 := NB745_746.out; have hnc6 := NB746_745.out; have hnb7 := NB745_747.out; have hnc7 := NB747_745.out; have z8_0 := ca1 BK745; have f8_0 := blk_frozen BK745.out 0) | ((with_reducible refine gf 90 ?_); refine gc Tryd.func90 (some 6) (laws_toUint32S.calls _ A0_0 c0_0 _ _ _ (cb HR0_0) HC0_0.out A2.out) ?_; rintro e w9 ⟨v749, rfl, ho0, hb⟩; refine ⟨_, rfl, ?_⟩; have HO750 := Aside0.mk (Kd.R_lower ho0 (below_size bw)); replace BK745 := b_ BK745 hb; replace BK746 := b_ BK746 hb; replace BK747 := b_ BK747 hb; replace HB := hs hb; try clear hb; (try clear ho0); obtain ⟨Ao10, co10, eo10⟩ := Kd.R_slice HO750.out; subst eo10; have hnb11 := NB747_746.out; have hnc11 := NB746_747.out; have z12_0 := ca1 BK747; have f12_0 := blk_frozen BK747.out 0; have z13_0 := ca1 BK746; have f13_0 := blk_frozen BK746.out 0))
 refine bodyPost_ret (results_cell_row rfl _ _ gb746 53 #[.slice Ao10 t748.length co10] (0, 0) _ rfl (bp BK746) Tryd.underlying53 rfl kr) rfl ?_
 exact ⟨_, rt, by (with_reducible repeat (first | apply Kd.R_alloc | apply Kd.R_drewN | apply Kd.R_drew)); exact Kd.R_mono (Kd.R_far (p := ⟨gb746, 0, none⟩) (Kd.R_far (p := ⟨gb747, 0, none⟩) (Kd.R_types (Kd.R_types HO750.out BK747.out (by decide)) BK746.out (by decide)) (fun _ hk => hk.1.2) (.slice Ao10 t748.length co10)) (fun _ hk => hk.2) (.slice Ao10 t748.length co10)) (fun _ hk => trivial), bw⟩

/-! ### laws_toWarpS: function 57 -/
def laws_toWarpS.l0 : Nat → List (S25) → List (S28) → Int → Option ((List (S28)))
 | 0, _, _, _ => none
 | k + 1, x0, x3, x4 => if x4 < (x0.length : Int) then (if 0 ≤ x4 then ((laws_toWarp.f k ((rd_T25 x0 x4).f0) ((rd_T25 x0 x4).f1) ((rd_T25 x0 x4).f2) ((rd_T25 x0 x4).f3) ((rd_T25 x0 x4).f4) ((rd_T25 x0 x4).f5) ((rd_T25 x0 x4).f6) ((rd_T25 x0 x4).f7)).bind fun bt755 => (if x4 < (x3.length : Int) then (laws_toWarpS.l0 k x0 (x3.set (x4 : Int).toNat (⟨bt755.1, bt755.2.1, bt755.2.2.1, bt755.2.2.2.1, bt755.2.2.2.2.1, bt755.2.2.2.2.2.1, bt755.2.2.2.2.2.2.1, bt755.2.2.2.2.2.2.2⟩ : S28)) (wrap64 (x4 + 1))) else (none))) else (none)) else (some x3)
def laws_toWarpS.f (k : Nat) (l0 : List (S25)) : Option ((List (S28))) := if 0 ≤ (l0.length : Int) then (if ((l0.length : Int) : Int).toNat ≤ 2932031007402 then (laws_toWarpS.l0 k l0 (List.replicate ((l0.length : Int) : Int).toNat z28) 0) else (none)) else (none)
theorem laws_toWarpS.mono_l : ∀ k, (∀ y0 y1 y2, LeO (laws_toWarpS.l0 k y0 y1 y2) (laws_toWarpS.l0 (k + 1) y0 y1 y2))
 | 0 => fun _ _ _ r h => by simp [laws_toWarpS.l0] at h
 | k + 1 => by
  have ih0 := laws_toWarpS.mono_l k
  ·intro y0 y1 y2
   unfold laws_toWarpS.l0
   repeat' first
    | (with_reducible first | exact ih0 .. | exact laws_toWarp.mono .. | exact LeO.refl _ | exact LeO.none _ | refine LeO.ite ?_ ?_ | refine LeO.bind ?_ (fun _ => ?_))
    | exact LeO.none _ | refine LeO.ite ?_ ?_ | refine LeO.bind ?_ (fun _ => ?_)
theorem laws_toWarpS.mono : ∀ a0 k, LeO (laws_toWarpS.f k a0) (laws_toWarpS.f (k + 1) a0) := by
 intro a0 k
 have ih0 := laws_toWarpS.mono_l k
 unfold laws_toWarpS.f
 repeat' first
  | (with_reducible first | exact ih0 .. | exact laws_toWarp.mono .. | exact LeO.refl _ | exact LeO.none _ | refine LeO.ite ?_ ?_ | refine LeO.bind ?_ (fun _ => ?_))
  | exact LeO.none _ | refine LeO.ite ?_ ?_ | refine LeO.bind ?_ (fun _ => ?_)
set_option maxHeartbeats 8000000 in
set_option maxRecDepth 100000 in
theorem laws_toWarpS.calls (k : Nat) (A0 : Option Addr) (c0 : Nat) (l0 : List (S25)) (r : List (S28)) (w : World) (hr0 : Kd.C k25 w A0 l0.length l0) (hc0 : l0.length ≤ c0) (h : laws_toWarpS.f k l0 = some r) :
  Calls Tryd.prog 57 #[.slice A0 l0.length c0] w fun e w' => ∃ v0_ : Value, e = .returned (v0_) ∧ Kd.S k28 28 w' w.heap.size (fun _ => True) v0_ r ∧ Below w.heap.size w w' := by
 have hu25 := Tryd.underlying25
 have hu28 := Tryd.underlying28
 have HR0 := Aside0.mk hr0
 have HC0 := Aside0.mk hc0
 clear hr0 hc0
 have HB := Aside0.mk (Below.refl w.heap.size w)
 unfold laws_toWarpS.f at h
 have H := h
 clear h
 by_cases c2 : 0 ≤ (l0.length : Int)
 ·rw [if_pos c2] at H
  have c2b0 := eq_true c2
  have c2b1 : decide (0 ≤ (l0.length : Int)) = true := decide_eq_true c2
  clear c2
  by_cases c3 : ((l0.length : Int) : Int).toNat ≤ 2932031007402
  ·rw [if_pos c3] at H
   have c3b0 := eq_true c3
   have c3b1 : decide (((l0.length : Int) : Int).toNat ≤ 2932031007402) = true := decide_eq_true c3
   clear c3
   obtain ⟨y751, hy751⟩ : ∃ y_ : List (S28), y_ = (List.replicate ((l0.length : Int) : Int).toNat z28) := ⟨_, rfl⟩
   rw [← hy751] at H
   try with_reducible replace H := bs H
   have Ny751 := Aside0.mk hy751
   clear hy751
   have H' := Aside0.mk H
   clear H
   go_enter Tryd.func57, Tryd.ntmps57
   go_wp2_with (first | ((with_reducible refine gate_dst (N := 7) rfl ?_); refine Kd.S_make k28 _ 28 rfl (N := 7) rfl 54 _ _ rfl (l0.length : Int) rfl rfl Tryd.underlying54 (.agg #[(.int .i64 0), (.slice none 0 0), (.slice none 0 0), (.int .u32 0), (.int .i64 0), (.int .i64 0), (.int .i64 0), (.int .u32 0)]) 96 info28 rfl (by decide) (by omega) z28 (ok := fun _ => True) (okp := fun _ => True) (k28_mkM _ _ _ z28 (Kd.R_nil _ _ _ _ _) (Kd.R_nil _ _ _ _ _)) (fun _ hk => hk) trivial (of_decide_eq_true as_) (Nat.le_trans (Nat.mul_le_mul_right _ (of_decide_eq_true as_ : (l0.length : Int).toNat ≤ 2932031007402)) (by omega)) (Below.refl _ _) (Nat.le_refl _) ?_; intro v752 w4 ho5 hb hg_ hnew_; clear hg_ hnew_; (first | rw [← Ny751.out] at ho5 | (simp only [Int.reduceToNat] at ho5; rw [← Ny751.out] at ho5)); have HO753 := Aside0.mk (Kd.S_lower ho5 (below_size bw)); replace HB := hs hb; clear hb ho5))
   go_loopg [4] k (fun kq v4 w' => ∃ (x3_1 : List (S28)) (x4_1 : Int), v4 = .int .i64 x4_1 ∧ Aside0 (laws_toWarpS.l0 kq l0 x3_1 x4_1 = some r) ∧ Aside0 (kq ≤ k) ∧ Aside0 (Kd.S k28 28 w' w.heap.size (fun _ => True) v752 x3_1) ∧ Aside0 (Below w.heap.size w w'))
   case atStart => exact ⟨(y751), (0), ev, H', ⟨Nat.le_refl _⟩, ⟨by (with_reducible repeat (first | apply Kd.S_alloc | apply Kd.S_drewN | apply Kd.S_drew)); exact HO753.out⟩, ⟨bw⟩⟩
   case round =>
    clear H'
    try clear c2
    try clear c2b0
    try clear c2b1
    try clear c3
    try clear c3b0
    try clear c3b1
    obtain ⟨x3_1, x4_1, rfl, HA, HK1, HO_3, HB⟩ := hrel
    cases gk with
    | zero => exact absurd HA.out (by simp [laws_toWarpS.l0])
    | succ k1 =>
     have H := HA.out
     clear HA
     simp only [laws_toWarpS.l0] at H
     replace H := ilt H
     rcases H with ⟨c6b0, H⟩ | ⟨c6b0, H⟩
     ·by_cases c7 : 0 ≤ x4_1
      ·rw [if_pos c7] at H
       have c7b0 : decide (0 ≤ x4_1) = true := decide_eq_true c7
       clear c7
       replace H := bn H
       obtain ⟨⟨t755, t756, t759, t762, t763, t764, t765, t766⟩, A8, H⟩ := H
       try dsimp only at H
       by_cases c9 : x4_1 < (x3_1.length : Int)
       ·rw [if_pos c9] at H
        have c9b0 : decide (x4_1 < (x3_1.length : Int)) = true := decide_eq_true c9
        clear c9
        obtain ⟨y767, hy767⟩ : ∃ y_ : List (S28), y_ = (x3_1.set (x4_1 : Int).toNat (⟨t755, t756, t759, t762, t763, t764, t765, t766⟩ : S28)) := ⟨_, rfl⟩
        rw [← hy767] at H
        try with_reducible replace H := bs H
        have Ny767 := Aside0.mk hy767
        clear hy767
        have H' := Aside0.mk H
        clear H
        have p754 : 0 ≤ (x4_1 : Int) := of_decide_eq_true as_
        have q754 : x4_1 < (l0.length : Int) := of_decide_eq_true as_
        obtain ⟨ad754, A754_1, c754_1, A754_2, c754_2, e754, hx754_0, hx754_1, hx754_2, hx754_3, hx754_4, hx754_5, hx754_6, hx754_7, hl754_1, hi754_1, hl754_2, hi754_2⟩ := at_T25 HR0.out x4_1 p754 q754
        cases e754
        replace hx754_0 := cl HB hx754_0
        replace hx754_1 := cl HB hx754_1
        replace hx754_2 := cl HB hx754_2
        replace hx754_3 := cl HB hx754_3
        replace hx754_4 := cl HB hx754_4
        replace hx754_5 := cl HB hx754_5
        replace hx754_6 := cl HB hx754_6
        replace hx754_7 := cl HB hx754_7
        have HR754_1 := Aside0.mk hi754_1
        have HC754_1 := Aside0.mk hl754_1
        clear hi754_1 hl754_1
        have HR754_2 := Aside0.mk hi754_2
        have HC754_2 := Aside0.mk hl754_2
        clear hi754_2 hl754_2
        replace p754 := eq_true p754
        replace q754 := eq_true q754
        go_wp2_with (first | ((with_reducible refine gf 10 ?_); refine gc Tryd.func10 (some 20) (laws_toWarp.calls _ _ A754_1 c754_1 _ A754_2 c754_2 _ _ _ _ _ _ _ _ _ _ _ _ _ _ _ (cb HR754_1) HC754_1.out (cb HR754_2) HC754_2.out A8.out) ?_; rintro e w11 ⟨v757, v760, rfl, ho0, ho1, hb⟩; refine ⟨_, rfl, ?_⟩; replace HO_3 := Aside0.mk (Kd.S_mono (Kd.S_told (Kd.S_told (Kd.S_old (by (with_reducible repeat (first | apply Kd.S_alloc | apply Kd.S_drewN | apply Kd.S_drew)); exact HO_3.out) hb) (Kd.R_base ho0)) (Kd.R_base ho1)) (fun _ h_ => h_.1)); have HO758 := Aside0.mk (Kd.R_lower ho0 (below_size bw)); have HO761 := Aside0.mk (Kd.R_lower ho1 (below_size bw)); replace HB := hs hb; try clear hb; (try clear ho0); (try clear ho1); have p10 : 0 ≤ (x4_1 : Int) := of_decide_eq_true as_; have q10 : (x4_1 : Int) < ((x3_1.length : Int) : Int) := of_decide_eq_true as_; obtain ⟨go10, co10, eo10, gb10, gl10, cl10, HG10⟩ := Kd.S_form HO_3.out (by omega); (first | cases eo10 | (injection eo10 with ea_ en_ ec_; (first | subst ea_ | (injection ea_ with ea_; subst ea_)); subst ec_; clear en_)); have GB10 := Aside0.mk gb10; have GG10 := Aside0.mk HG10; clear gb10 gl10 HG10; obtain ⟨_, ce10, hcl10, hM10, hcc10, hfr10, _, _⟩ := Kd.S_elem HO_3.out z28 (x4_1 : Int) p10 q10; obtain ⟨ve10_1, ve10_2, rfl, ge10_1, ge10_2⟩ := k28_openM hM10; have hx10_0 : w11.cell? ⟨go10, (x4_1 : Int).toNat * 8, none⟩ = some (.int .i64 ((rd_T28 x3_1 x4_1).f0)) := hcc10 0 _ rfl; have hx10_1 : w11.cell? ⟨go10, (x4_1 : Int).toNat * 8 + 1, none⟩ = some (ve10_1) := hcc10 1 _ rfl; have hx10_2 : w11.cell? ⟨go10, (x4_1 : Int).toNat * 8 + 2, none⟩ = some (ve10_2) := hcc10 2 _ rfl; have hx10_3 : w11.cell? ⟨go10, (x4_1 : Int).toNat * 8 + 3, none⟩ = some (.int .u32 ((rd_T28 x3_1 x4_1).f3)) := hcc10 3 _ rfl; have hx10_4 : w11.cell? ⟨go10, (x4_1 : Int).toNat * 8 + 4, none⟩ = some (.int .i64 ((rd_T28 x3_1 x4_1).f4)) := hcc10 4 _ rfl; have hx10_5 : w11.cell? ⟨go10, (x4_1 : Int).toNat * 8 + 5, none⟩ = some (.int .i64 ((rd_T28 x3_1 x4_1).f5)) := hcc10 5 _ rfl; have hx10_6 : w11.cell? ⟨go10, (x4_1 : Int).toNat * 8 + 6, none⟩ = some (.int .i64 ((rd_T28 x3_1 x4_1).f6)) := hcc10 6 _ rfl; have hx10_7 : w11.cell? ⟨go10, (x4_1 : Int).toNat * 8 + 7, none⟩ = some (.int .u32 ((rd_T28 x3_1 x4_1).f7)) := hcc10 7 _ rfl; have hf10_0 : w11.frozen? ⟨go10, (x4_1 : Int).toNat * 8, none⟩ = false := hfr10 0; have hf10_1 : w11.frozen? ⟨go10, (x4_1 : Int).toNat * 8 + 1, none⟩ = false := hfr10 1; have hf10_2 : w11.frozen? ⟨go10, (x4_1 : Int).toNat * 8 + 2, none⟩ = false := hfr10 2; have hf10_3 : w11.frozen? ⟨go10, (x4_1 : Int).toNat * 8 + 3, none⟩ = false := hfr10 3; have hf10_4 : w11.frozen? ⟨go10, (x4_1 : Int).toNat * 8 + 4, none⟩ = false := hfr10 4; have hf10_5 : w11.frozen? ⟨go10, (x4_1 : Int).toNat * 8 + 5, none⟩ = false := hfr10 5; have hf10_6 : w11.frozen? ⟨go10, (x4_1 : Int).toNat * 8 + 6, none⟩ = false := hfr10 6; have hf10_7 : w11.frozen? ⟨go10, (x4_1 : Int).toNat * 8 + 7, none⟩ = false := hfr10 7; clear hcl10 hcc10 hfr10 hM10; replace p10 := eq_true p10; replace q10 := eq_true q10; have n_ := Aside0.mk (Kd.S_mono (ok' := (fun k_ => some k_ ≠ (v757 : Value).ownBlock ∧ some k_ ≠ (v760 : Value).ownBlock)) HO_3.out (fun k_ hk => ⟨hk.1.2, hk.2⟩)); clear HO_3; have HO_3 := n_; clear n_; have HX12 := Aside0.mk (show Kd.S k28 28 w11 w.heap.size (fun k_ => ((fun _ => True)) k_ ∧ ¬ ((fun k_ => some k_ = (v757 : Value).ownBlock ∨ some k_ = (v760 : Value).ownBlock)) k_) (.slice (some ⟨go10, 0, none⟩) x3_1.length co10) x3_1 from (by (with_reducible repeat (first | apply Kd.S_alloc | apply Kd.S_drewN | apply Kd.S_drew)); exact Kd.S_mono HO_3.out (fun k_ hk => ⟨trivial, fun e_ => e_.elim (fun h_ => hk.1 h_) (fun h_ => hk.2 h_)⟩))); obtain ⟨oki12, ce12, hcl12, hM12, hcc12, hfr12, hoki12, hH12⟩ := Kd.S_elem HX12.out z28 (x4_1 : Int) (of_decide_eq_true as_) (by have h_ : (x4_1 : Int) < ((x3_1.length : Int) : Int) := of_decide_eq_true as_; first | exact h_ | (have e_ := (Kd.S_reads' HO_3.out).1; omega) | simpa using h_); obtain ⟨ve12_1, ve12_2, rfl, ge12_1, ge12_2⟩ := k28_openM hM12; have HP12 := Kd.S_seg hH12 (of_decide_eq_true as_) (by have h_ : (x4_1 : Int) < ((x3_1.length : Int) : Int) := of_decide_eq_true as_; first | exact h_ | (have e_ := (Kd.S_reads' HO_3.out).1; omega) | simpa using h_) (seg := [.int .i64 t755, v757, v760, .int .u32 t762, .int .i64 t763, .int .i64 t764, .int .i64 t765, .int .u32 t766]) (j := 0) (show 8 ≤ 8 from by decide) (x' := (⟨t755, t756, t759, t762, t763, t764, t765, t766⟩ : S28)) (k28_mkM _ _ _ (⟨t755, t756, t759, t762, t763, t764, t765, t766⟩ : S28) (Kd.R_mono (Kd.R_tight rfl (Kd.R_mono (ok' := fun k_ => ((fun _ => True)) k_ ∧ k_ ≠ go10) (Kd.R_apart' (HO758.out) (Kd.S_typed HO_3.out) (by decide)) (fun k_ hk => ⟨trivial, fun e_ => (hk.2) (by rw [e_]; rfl)⟩))) (fun _ h_ => Or.inr (Or.inl h_))) (Kd.R_mono (Kd.R_tight rfl (Kd.R_mono (ok' := fun k_ => ((fun _ => True)) k_ ∧ k_ ≠ go10) (Kd.R_apart' (HO761.out) (Kd.S_typed HO_3.out) (by decide)) (fun k_ hk => ⟨trivial, fun e_ => (hk.2) (by rw [e_]; rfl)⟩))) (fun _ h_ => Or.inr (Or.inr (h_))))) (fun _ hk => hk) (fun k_ hk_ => hk_.elim (fun h_ => ((Kd.R_mono (ok' := fun k_ => ((fun _ => True)) k_ ∧ k_ ≠ go10) (Kd.R_apart' (HO758.out) (Kd.S_typed HO_3.out) (by decide)) (fun k_ hk => ⟨trivial, fun e_ => (hk.2) (by rw [e_]; rfl)⟩))).1 k_ h_.symm) (fun h_ => ((Kd.R_mono (ok' := fun k_ => ((fun _ => True)) k_ ∧ k_ ≠ go10) (Kd.R_apart' (HO761.out) (Kd.S_typed HO_3.out) (by decide)) (fun k_ hk => ⟨trivial, fun e_ => (hk.2) (by rw [e_]; rfl)⟩))).1 k_ h_.symm)); have hx12_0 := hcc12 0 _ rfl; (try simp only [show (k28).sz = 8 from rfl, Nat.mul_one, Nat.add_zero] at hx12_0); have hf12_0 := hfr12 0; (try simp only [show (k28).sz = 8 from rfl, Nat.mul_one, Nat.add_zero] at hf12_0); have hx12_1 := hcc12 1 _ rfl; (try simp only [show (k28).sz = 8 from rfl, Nat.mul_one, Nat.add_zero] at hx12_1); have hf12_1 := hfr12 1; (try simp only [show (k28).sz = 8 from rfl, Nat.mul_one, Nat.add_zero] at hf12_1); have hx12_2 := hcc12 2 _ rfl; (try simp only [show (k28).sz = 8 from rfl, Nat.mul_one, Nat.add_zero] at hx12_2); have hf12_2 := hfr12 2; (try simp only [show (k28).sz = 8 from rfl, Nat.mul_one, Nat.add_zero] at hf12_2); have hx12_3 := hcc12 3 _ rfl; (try simp only [show (k28).sz = 8 from rfl, Nat.mul_one, Nat.add_zero] at hx12_3); have hf12_3 := hfr12 3; (try simp only [show (k28).sz = 8 from rfl, Nat.mul_one, Nat.add_zero] at hf12_3); have hx12_4 := hcc12 4 _ rfl; (try simp only [show (k28).sz = 8 from rfl, Nat.mul_one, Nat.add_zero] at hx12_4); have hf12_4 := hfr12 4; (try simp only [show (k28).sz = 8 from rfl, Nat.mul_one, Nat.add_zero] at hf12_4); have hx12_5 := hcc12 5 _ rfl; (try simp only [show (k28).sz = 8 from rfl, Nat.mul_one, Nat.add_zero] at hx12_5); have hf12_5 := hfr12 5; (try simp only [show (k28).sz = 8 from rfl, Nat.mul_one, Nat.add_zero] at hf12_5); have hx12_6 := hcc12 6 _ rfl; (try simp only [show (k28).sz = 8 from rfl, Nat.mul_one, Nat.add_zero] at hx12_6); have hf12_6 := hfr12 6; (try simp only [show (k28).sz = 8 from rfl, Nat.mul_one, Nat.add_zero] at hf12_6); have hx12_7 := hcc12 7 _ rfl; (try simp only [show (k28).sz = 8 from rfl, Nat.mul_one, Nat.add_zero] at hx12_7); have hf12_7 := hfr12 7; (try simp only [show (k28).sz = 8 from rfl, Nat.mul_one, Nat.add_zero] at hf12_7); clear hcl12 hcc12 hfr12 hM12 hoki12 hH12) | ((with_reducible refine gate_store (t := 28) (p := 21) rfl ?_); refine store_event (t := 28) (p := 21) (v := ?vo_w13) (w1 := ((((((((w11.setCell ⟨go10, (x4_1 : Int).toNat * 8, none⟩ (.int .i64 t755)).setCell ⟨go10, (x4_1 : Int).toNat * 8 + 1, none⟩ (v757)).setCell ⟨go10, (x4_1 : Int).toNat * 8 + 2, none⟩ (v760)).setCell ⟨go10, (x4_1 : Int).toNat * 8 + 3, none⟩ (.int .u32 t762)).setCell ⟨go10, (x4_1 : Int).toNat * 8 + 4, none⟩ (.int .i64 t763)).setCell ⟨go10, (x4_1 : Int).toNat * 8 + 5, none⟩ (.int .i64 t764)).setCell ⟨go10, (x4_1 : Int).toNat * 8 + 6, none⟩ (.int .i64 t765)).setCell ⟨go10, (x4_1 : Int).toNat * 8 + 7, none⟩ (.int .u32 t766))) ?hg ?ho ?hn ?hr ?_; (case ho => rfl); (case hg => rfl); (case hn => rfl); (case hr => first | (go_simp; done) | (go_simp; rfl) | (obtain ⟨_, _, e757_⟩ := Kd.R_slice HO758.out; subst e757_; obtain ⟨_, _, e760_⟩ := Kd.R_slice HO761.out; subst e760_; first | (go_simp; done) | (go_simp; rfl))); intro w13 hw; have hg : w11.grownBy w13 (some go10) := (by rw [hw]; exact HP12.2); have hp_ : Kd.S k28 28 w13 w.heap.size (fun _ => True) (.slice (some ⟨go10, 0, none⟩) x3_1.length co10) y767 := (by rw [hw, Ny767.out]; exact HP12.1); clear HP12; replace HO_3 := Aside0.mk (hp_); replace HB := Aside0.mk ((by rw [hw]; exact below_set (below_set (below_set (below_set (below_set (below_set (below_set (below_set (HB.out) GB10.out) GB10.out) GB10.out) GB10.out) GB10.out) GB10.out) GB10.out) GB10.out : Below w.heap.size w w13)); clear HO758 HO761; clear hg hw hp_))
        go_roundg k1
        case measure => have := HK1.out; omega
        case rel => exact ⟨(y767), (wrap64 (x4_1 + 1)), ev, H', ⟨oa HK1⟩, ⟨by (with_reducible repeat (first | apply Kd.S_alloc | apply Kd.S_drewN | apply Kd.S_drew)); exact HO_3.out⟩, ⟨bw⟩⟩
       ·rw [if_neg c9] at H
        exact absurd H (by simp)
      ·rw [if_neg c7] at H
       exact absurd H (by simp)
     ·obtain rfl := Option.some.inj H
      go_wp2
      go_ret
      exact ⟨_, rt, by (with_reducible repeat (first | apply Kd.S_alloc | apply Kd.S_drewN | apply Kd.S_drew)); exact HO_3.out, bw⟩
  ·rw [if_neg c3] at H
   exact absurd H (by simp)
 ·rw [if_neg c2] at H
  exact absurd H (by simp)

/-! ### laws_toMach: function 25 -/
def laws_toMach.f (k : Nat) (l0_0 : List Int) (l0_1 : List (S25)) : Option (List Int × (List (S28))) := (laws_toMem.f k l0_0).bind fun t771 => ((laws_toWarpS.f k l0_1).bind fun t774 => (some (t771, t774)))
theorem laws_toMach.mono : ∀ a0 a1 k, LeO (laws_toMach.f k a0 a1) (laws_toMach.f (k + 1) a0 a1) := by
 intro a0 a1 k
 unfold laws_toMach.f
 repeat' first
  | (with_reducible first | exact laws_toMem.mono .. | exact laws_toWarpS.mono .. | exact LeO.refl _ | exact LeO.none _ | refine LeO.ite ?_ ?_ | refine LeO.bind ?_ (fun _ => ?_))
  | exact LeO.none _ | refine LeO.ite ?_ ?_ | refine LeO.bind ?_ (fun _ => ?_)
set_option maxHeartbeats 8000000 in
set_option maxRecDepth 100000 in
theorem laws_toMach.calls (k : Nat) (A0_0 : Option Addr) (c0_0 : Nat) (l0_0 : List Int) (A0_1 : Option Addr) (c0_1 : Nat) (l0_1 : List (S25)) (r1 : List Int) (r2 : List (S28)) (w : World) (hr0_0 : Kd.C (Kd.int .u32) w A0_0 l0_0.length l0_0) (hc0_0 : l0_0.length ≤ c0_0) (hr0_1 : Kd.C k25 w A0_1 l0_1.length l0_1) (hc0_1 : l0_1.length ≤ c0_1) (h : laws_toMach.f k l0_0 l0_1 = some (r1, r2)) :
  Calls Tryd.prog 25 #[.agg #[.slice A0_0 l0_0.length c0_0, .slice A0_1 l0_1.length c0_1]] w fun e w' => ∃ v0_ v1_ : Value, e = .returned (.agg #[v0_, v1_]) ∧ Kd.R (Kd.int .u32) 23 w' w.heap.size (fun _ => True) v0_ r1 ∧ Kd.S k28 28 w' w.heap.size (fun _ => True) v1_ r2 ∧ Below w.heap.size w w' := by
 have hu50 := Tryd.underlying50
 have hu56 := Tryd.underlying56
 have hu47 := Tryd.underlying47
 have hu53 := Tryd.underlying53
 have HR0_0 := Aside0.mk hr0_0
 have HC0_0 := Aside0.mk hc0_0
 clear hr0_0 hc0_0
 have HR0_1 := Aside0.mk hr0_1
 have HC0_1 := Aside0.mk hc0_1
 clear hr0_1 hc0_1
 have HB := Aside0.mk (Below.refl w.heap.size w)
 unfold laws_toMach.f at h
 have H := h
 clear h
 replace H := bn H
 obtain ⟨t771, A2, H⟩ := H
 try dsimp only at H
 replace H := bn H
 obtain ⟨t774, A3, H⟩ := H
 try dsimp only at H
 simp only [Option.some.injEq, Prod.mk.injEq] at H
 obtain ⟨rfl, rfl⟩ := H
 go_enter Tryd.func25, Tryd.ntmps25
 go_wp2_with (first | ((with_reducible refine gd 1 ?_); refine bx 1 50 #[.slice A0_0 l0_0.length c0_0, .slice A0_1 l0_1.length c0_1] ?_; clear HB; intro gb768 w4 hg BK768 hb GE768 HB; clear hb hg) | ((with_reducible refine gd 2 ?_); refine bx 2 56 #[.slice none 0 0, .slice none 0 0] ?_; clear HB; intro gb769 w5 hg BK769 hb GE769 HB; have NB768_769 := nl BK768 hg; have NB769_768 := ng BK768 hg; replace BK768 := b_ BK768 hb; clear hb hg) | ((with_reducible refine gd 3 ?_); refine bx 3 56 #[.slice none 0 0, .slice none 0 0] ?_; clear HB; intro gb770 w6 hg BK770 hb GE770 HB; have NB768_770 := nl BK768 hg; have NB770_768 := ng BK768 hg; replace BK768 := b_ BK768 hb; have NB769_770 := nl BK769 hg; have NB770_769 := ng BK769 hg; replace BK769 := b_ BK769 hb; clear hb hg; have hnb7 := NB768_769.out; have hnc7 := NB769_768.out; have hnb8 := NB768_770.out; have hnc8 := NB770_768.out; obtain ⟨z9_0, z9_1⟩ := ca2 BK768; obtain ⟨f9_0, f9_1⟩ := fa2 BK768) | ((with_reducible refine gf 56 ?_); refine gc Tryd.func56 (some 6) (laws_toMem.calls _ A0_0 c0_0 _ _ _ (cb HR0_0) HC0_0.out A2.out) ?_; rintro e w10 ⟨v772, rfl, ho0, hb⟩; refine ⟨_, rfl, ?_⟩; have HO773 := Aside0.mk (Kd.R_lower ho0 (below_size bw)); replace BK768 := b_ BK768 hb; replace BK769 := b_ BK769 hb; replace BK770 := b_ BK770 hb; replace HB := hs hb; try clear hb; (try clear ho0); obtain ⟨Ao11, co11, eo11⟩ := Kd.R_slice HO773.out; subst eo11; have hnb12 := NB770_769.out; have hnc12 := NB769_770.out; obtain ⟨z13_0, z13_1⟩ := ca2 BK770; obtain ⟨f13_0, f13_1⟩ := fa2 BK770; obtain ⟨z14_0, z14_1⟩ := ca2 BK768; obtain ⟨f14_0, f14_1⟩ := fa2 BK768) | ((with_reducible refine gf 57 ?_); refine gc Tryd.func57 (some 10) (laws_toWarpS.calls _ A0_1 c0_1 _ _ _ (Kd.C_below HR0_1.out bw) HC0_1.out A3.out) ?_; rintro e w15 ⟨v775, rfl, ho0, hb⟩; refine ⟨_, rfl, ?_⟩; replace HO773 := Aside0.mk (Kd.R_below (rx HO773 BK770) hb); have HO776 := Aside0.mk (Kd.S_lower ho0 (below_size bw)); replace BK768 := b_ BK768 hb; replace BK769 := b_ BK769 hb; replace BK770 := bq BK770 #[.slice Ao11 t771.length co11, .slice none 0 0] hb; replace HB := hs hb; try clear hb; (try clear ho0); obtain ⟨Ao16, co16, eo16⟩ := Kd.S_slice HO776.out; subst eo16; obtain ⟨z17_0, z17_1⟩ := ca2 BK770; obtain ⟨f17_0, f17_1⟩ := fa2 BK770; obtain ⟨z18_0, z18_1⟩ := ca2 BK769; obtain ⟨f18_0, f18_1⟩ := fa2 BK769))
 refine bodyPost_ret (results_cell_row rfl _ _ gb769 56 #[.slice Ao11 t771.length co11, .slice Ao16 t774.length co16] (0, 0) _ rfl (bp BK769) Tryd.underlying56 rfl kr) rfl ?_
 exact ⟨_, _, rt, by (with_reducible repeat (first | apply Kd.R_alloc | apply Kd.R_drewN | apply Kd.R_drew)); exact Kd.R_mono (Kd.R_far (p := ⟨gb769, 1, none⟩) (Kd.R_far (p := ⟨gb769, 0, none⟩) (Kd.R_far (p := ⟨gb770, 1, none⟩) (Kd.R_types (Kd.R_types HO773.out BK770.out (by decide)) BK769.out (by decide)) (fun _ hk => hk.1.2) (.slice Ao16 t774.length co16)) (fun _ hk => hk.2) (.slice Ao11 t771.length co11)) (fun _ hk => hk.2) (.slice Ao16 t774.length co16)) (fun _ hk => trivial), by (with_reducible repeat (first | apply Kd.S_alloc | apply Kd.S_drewN | apply Kd.S_drew)); exact Kd.S_mono (Kd.S_far (p := ⟨gb769, 1, none⟩) (Kd.S_far (p := ⟨gb769, 0, none⟩) (Kd.S_far (p := ⟨gb770, 1, none⟩) (Kd.S_types (Kd.S_types HO776.out BK770.out (by decide)) BK769.out (by decide)) (fun _ hk => hk.1.2) (.slice Ao16 t774.length co16)) (fun _ hk => hk.2) (.slice Ao11 t771.length co11)) (fun _ hk => hk.2) (.slice Ao16 t774.length co16)) (fun _ hk => trivial), bw⟩

/-! ### impl_packed: function 111 -/
def impl_packed.f (a0_0 : Int) (a0_1 : Int) (a0_2 : Int) (a0_3 : Int) : Option (Int) := some (Go.bits .or .u32 (Go.bits .or .u32 (Go.bits .or .u32 a0_2 ((((a0_1) % 4294967296) * 65536) % 4294967296)) ((((a0_0) % 4294967296) * 1048576) % 4294967296)) ((((a0_3) % 4294967296) * 16777216) % 4294967296))
set_option maxHeartbeats 8000000 in
set_option maxRecDepth 100000 in
theorem impl_packed.calls (a0_0 : Int) (a0_1 : Int) (a0_2 : Int) (a0_3 : Int) (r : Int) (w : World) (h : impl_packed.f a0_0 a0_1 a0_2 a0_3 = some r) :
  Calls Tryd.prog 111 #[.agg #[.int .i64 a0_0, .int .i64 a0_1, .int .u32 a0_2, .int .i64 a0_3]] w fun e w' => e = .returned (.int .u32 r) ∧ Below w.heap.size w w' := by
 have hu91 := Tryd.underlying91
 have HB := Aside0.mk (Below.refl w.heap.size w)
 unfold impl_packed.f at h
 have H := h
 clear h
 obtain rfl := Option.some.inj H
 go_enter Tryd.func111, Tryd.ntmps111
 go_wp2_with (first | ((with_reducible refine gd 1 ?_); refine bx 1 91 #[.int .i64 a0_0, .int .i64 a0_1, .int .u32 a0_2, .int .i64 a0_3] ?_; clear HB; intro gb777 w2 hg BK777 hb GE777 HB; clear hb hg; obtain ⟨z3_0, z3_1, z3_2, z3_3⟩ := ca4 BK777; obtain ⟨f3_0, f3_1, f3_2, f3_3⟩ := fa4 BK777))
 go_ret
 exact ⟨rt, bw⟩

/-! ### impl_HeldWord: function 95 -/
def impl_HeldWord.f  : Option (Int) := (impl_packed.f 3 0 0 0).bind fun t778 => (some t778)
set_option maxHeartbeats 8000000 in
set_option maxRecDepth 100000 in
theorem impl_HeldWord.calls  (r : Int) (w : World) (h : impl_HeldWord.f  = some r) :
  Calls Tryd.prog 95 #[] w fun e w' => e = .returned (.int .u32 r) ∧ Below w.heap.size w w' := by
 have hu91 := Tryd.underlying91
 have HB := Aside0.mk (Below.refl w.heap.size w)
 unfold impl_HeldWord.f at h
 have H := h
 clear h
 replace H := bn H
 obtain ⟨t778, A1, H⟩ := H
 try dsimp only at H
 obtain rfl := Option.some.inj H
 go_enter Tryd.func95, Tryd.ntmps95
 go_wp2_with (first | ((with_reducible refine gf 111 ?_); refine gc Tryd.func111 (some 2) (impl_packed.calls _ _ _ _ _ _ A1.out) ?_; rintro e w2 ⟨rfl, hb⟩; refine ⟨_, rfl, ?_⟩; replace HB := hs hb; try clear hb))
 go_ret
 exact ⟨rt, bw⟩

end Go.Proofs.YtfhcnnkeokjfpaaDoor.PM1
namespace Go.Proofs.YtfhcnnkeokjfpaaDoor.PM1
open Go.RowKit Go.Proofs.YtfhcnnkeokjfpaaDoorW.PrintWords Go.Proofs.YtfhcnnkeokjfpaaDoorW.PrintLast Go.Proofs.YtfhcnnkeokjfpaaDoorW.PrintMore Go.Proofs.YtfhcnnkeokjfpaaDoor.T
attribute [local go_sem] max2_int min2_int max_two min_two max_three min_three max_four min_four   -- for this text's walks alone
set_option linter.unusedVariables false
set_option linter.unusedSimpArgs false

/-! ### laws_eqWarp: function 12 -/
def laws_eqWarp.f (k : Nat) (a0_0 : Int) (l0_1 : List Int) (l0_2 : List Int) (a0_3 : Int) (a0_4 : Int) (a0_5 : Int) (a0_6 : Int) (a0_7 : Int) (a1_0 : Int) (l1_1 : List Int) (l1_2 : List Int) (a1_3 : Int) (a1_4 : Int) (a1_5 : Int) (a1_6 : Int) (a1_7 : Int) : Option (Bool) := if a0_0 = a1_0 then ((laws_eqIntS.f k l0_1 l1_1).bind fun t322 => (if t322 = true then ((laws_eqIntS.f k l0_2 l1_2).bind fun t323 => (if t323 = true then (if a0_3 = a1_3 then (if a0_4 = a1_4 then (if a0_5 = a1_5 then (if a0_6 = a1_6 then (if a0_7 = a1_7 then (some true) else (some false)) else (some false)) else (some false)) else (some false)) else (some false)) else (some false))) else (some false))) else (some false)
theorem laws_eqWarp.mono : ∀ a0 a1 a2 a3 a4 a5 a6 a7 a8 a9 a10 a11 a12 a13 a14 a15 k, LeO (laws_eqWarp.f k a0 a1 a2 a3 a4 a5 a6 a7 a8 a9 a10 a11 a12 a13 a14 a15) (laws_eqWarp.f (k + 1) a0 a1 a2 a3 a4 a5 a6 a7 a8 a9 a10 a11 a12 a13 a14 a15) := by
 intro a0 a1 a2 a3 a4 a5 a6 a7 a8 a9 a10 a11 a12 a13 a14 a15 k
 unfold laws_eqWarp.f
 repeat' first
  | (with_reducible first | exact laws_eqIntS.mono .. | exact LeO.refl _ | exact LeO.none _ | refine LeO.ite ?_ ?_ | refine LeO.bind ?_ (fun _ => ?_))
  | exact LeO.none _ | refine LeO.ite ?_ ?_ | refine LeO.bind ?_ (fun _ => ?_)
set_option maxHeartbeats 2000000 in
set_option maxRecDepth 100000 in
theorem laws_eqWarp.calls (k : Nat) (a0_0 : Int) (A0_1 : Option Addr) (c0_1 : Nat) (l0_1 : List Int) (A0_2 : Option Addr) (c0_2 : Nat) (l0_2 : List Int) (a0_3 : Int) (a0_4 : Int) (a0_5 : Int) (a0_6 : Int) (a0_7 : Int) (a1_0 : Int) (A1_1 : Option Addr) (c1_1 : Nat) (l1_1 : List Int) (A1_2 : Option Addr) (c1_2 : Nat) (l1_2 : List Int) (a1_3 : Int) (a1_4 : Int) (a1_5 : Int) (a1_6 : Int) (a1_7 : Int) (r : Bool) (w : World) (hr0_1 : Kd.C (Kd.int .i64) w A0_1 l0_1.length l0_1) (hc0_1 : l0_1.length ≤ c0_1) (hr0_2 : Kd.C (Kd.int .i64) w A0_2 l0_2.length l0_2) (hc0_2 : l0_2.length ≤ c0_2) (hr1_1 : Kd.C (Kd.int .i64) w A1_1 l1_1.length l1_1) (hc1_1 : l1_1.length ≤ c1_1) (hr1_2 : Kd.C (Kd.int .i64) w A1_2 l1_2.length l1_2) (hc1_2 : l1_2.length ≤ c1_2) (h : laws_eqWarp.f k a0_0 l0_1 l0_2 a0_3 a0_4 a0_5 a0_6 a0_7 a1_0 l1_1 l1_2 a1_3 a1_4 a1_5 a1_6 a1_7 = some r) :
  Calls Tryd.prog 12 #[.agg #[.int .i64 a0_0, .slice A0_1 l0_1.length c0_1, .slice A0_2 l0_2.length c0_2, .int .u32 a0_3, .int .i64 a0_4, .int .i64 a0_5, .int .i64 a0_6, .int .u32 a0_7], .agg #[.int .i64 a1_0, .slice A1_1 l1_1.length c1_1, .slice A1_2 l1_2.length c1_2, .int .u32 a1_3, .int .i64 a1_4, .int .i64 a1_5, .int .i64 a1_6, .int .u32 a1_7]] w fun e w' => e = .returned (.bool r) ∧ Below w.heap.size w w' := by
 have hu28 := Tryd.underlying28
 have HR0_1 := Aside0.mk hr0_1
 have HC0_1 := Aside0.mk hc0_1
 clear hr0_1 hc0_1
 have HR0_2 := Aside0.mk hr0_2
 have HC0_2 := Aside0.mk hc0_2
 clear hr0_2 hc0_2
 have HR1_1 := Aside0.mk hr1_1
 have HC1_1 := Aside0.mk hc1_1
 clear hr1_1 hc1_1
 have HR1_2 := Aside0.mk hr1_2
 have HC1_2 := Aside0.mk hc1_2
 clear hr1_2 hc1_2
 have HB := Aside0.mk (Below.refl w.heap.size w)
 unfold laws_eqWarp.f at h
 have H := h
 clear h
 have HU3 := Aside0.mk H
 clear H
 go_enter Tryd.func12, Tryd.ntmps12
 go_upto_if 9 with (first | ((with_reducible refine gd 2 ?_); refine bx 2 28 #[.int .i64 a0_0, .slice A0_1 l0_1.length c0_1, .slice A0_2 l0_2.length c0_2, .int .u32 a0_3, .int .i64 a0_4, .int .i64 a0_5, .int .i64 a0_6, .int .u32 a0_7] ?_; clear HB; intro gb320 w4 hg BK320 hb GE320 HB; clear hb hg) | ((with_reducible refine gd 3 ?_); refine bx 3 28 #[.int .i64 a1_0, .slice A1_1 l1_1.length c1_1, .slice A1_2 l1_2.length c1_2, .int .u32 a1_3, .int .i64 a1_4, .int .i64 a1_5, .int .i64 a1_6, .int .u32 a1_7] ?_; clear HB; intro gb321 w5 hg BK321 hb GE321 HB; have NB320_321 := nl BK320 hg; have NB321_320 := ng BK320 hg; replace BK320 := b_ BK320 hb; clear hb hg; have hnb6 := NB320_321.out; have hnc6 := NB321_320.out; obtain ⟨z7_0, z7_1, z7_2, z7_3, z7_4, z7_5, z7_6, z7_7⟩ := ca8 BK320; obtain ⟨f7_0, f7_1, f7_2, f7_3, f7_4, f7_5, f7_6, f7_7⟩ := fa8 BK320; obtain ⟨z8_0, z8_1, z8_2, z8_3, z8_4, z8_5, z8_6, z8_7⟩ := ca8 BK321; obtain ⟨f8_0, f8_1, f8_2, f8_3, f8_4, f8_5, f8_6, f8_7⟩ := fa8 BK321))
 (try refine ap ?_)
 have H := HU3.out
 clear HU3
 replace H := ieq H
 rcases H with ⟨c9b0, c9b1, H⟩ | ⟨c9, c9b0, c9b1, H⟩
 ·(first | rw [c9b0] | (simp only [i64_w, i32_w]; rw [c9b0]) | (simp only [c9b2, Bool.not_true, Bool.not_false]) | (simp only [c9b1, Bool.not_true, Bool.not_false]) | skip)
  replace H := bn H
  obtain ⟨t322, A10, H⟩ := H
  try dsimp only at H
  have HU11 := Aside0.mk H
  clear H
  have hnb12 := NB320_321.out
  have hnc12 := NB321_320.out
  obtain ⟨z13_0, z13_1, z13_2, z13_3, z13_4, z13_5, z13_6, z13_7⟩ := ca8 BK320
  obtain ⟨f13_0, f13_1, f13_2, f13_3, f13_4, f13_5, f13_6, f13_7⟩ := fa8 BK320
  obtain ⟨z14_0, z14_1, z14_2, z14_3, z14_4, z14_5, z14_6, z14_7⟩ := ca8 BK321
  obtain ⟨f14_0, f14_1, f14_2, f14_3, f14_4, f14_5, f14_6, f14_7⟩ := fa8 BK321
  go_upto_if 15 with (first | ((with_reducible refine gf 43 ?_); refine gc Tryd.func43 (some 14) (laws_eqIntS.calls _ A0_1 c0_1 _ A1_1 c1_1 _ _ _ (cb HR0_1) HC0_1.out (cb HR1_1) HC1_1.out A10.out) ?_; rintro e w' ⟨rfl, ⟨nd, rfl⟩⟩; refine ⟨_, rfl, ?_⟩))
  (try refine ap ?_)
  have H := HU11.out
  clear HU11
  replace H := ib H
  rcases H with ⟨rfl, H⟩ | ⟨rfl, H⟩
  ·(try simp only [Bool.not_true, Bool.not_false])
   replace H := bn H
   obtain ⟨t323, A16, H⟩ := H
   try dsimp only at H
   have HU17 := Aside0.mk H
   clear H
   have hnb18 := NB320_321.out
   have hnc18 := NB321_320.out
   obtain ⟨z19_0, z19_1, z19_2, z19_3, z19_4, z19_5, z19_6, z19_7⟩ := ca8 BK320
   obtain ⟨f19_0, f19_1, f19_2, f19_3, f19_4, f19_5, f19_6, f19_7⟩ := fa8 BK320
   obtain ⟨z20_0, z20_1, z20_2, z20_3, z20_4, z20_5, z20_6, z20_7⟩ := ca8 BK321
   obtain ⟨f20_0, f20_1, f20_2, f20_3, f20_4, f20_5, f20_6, f20_7⟩ := fa8 BK321
   go_upto_if 21 with (first | ((with_reducible refine gf 43 ?_); refine gc Tryd.func43 (some 20) (laws_eqIntS.calls _ A0_2 c0_2 _ A1_2 c1_2 _ _ _ (cb HR0_2) HC0_2.out (cb HR1_2) HC1_2.out A16.out) ?_; rintro e w' ⟨rfl, ⟨nd, rfl⟩⟩; refine ⟨_, rfl, ?_⟩))
   (try refine ap ?_)
   have H := HU17.out
   clear HU17
   replace H := ib H
   rcases H with ⟨rfl, H⟩ | ⟨rfl, H⟩
   ·(try simp only [Bool.not_true, Bool.not_false])
    replace H := ieq H
    rcases H with ⟨c22b0, c22b1, H⟩ | ⟨c22, c22b0, c22b1, H⟩
    ·replace H := ieq H
     rcases H with ⟨c23b0, c23b1, H⟩ | ⟨c23, c23b0, c23b1, H⟩
     ·replace H := ieq H
      rcases H with ⟨c24b0, c24b1, H⟩ | ⟨c24, c24b0, c24b1, H⟩
      ·replace H := ieq H
       rcases H with ⟨c25b0, c25b1, H⟩ | ⟨c25, c25b0, c25b1, H⟩
       ·replace H := ieq H
        rcases H with ⟨c26b0, c26b1, H⟩ | ⟨c26, c26b0, c26b1, H⟩
        ·obtain rfl := Option.some.inj H
         have hnb27 := NB320_321.out
         have hnc27 := NB321_320.out
         obtain ⟨z28_0, z28_1, z28_2, z28_3, z28_4, z28_5, z28_6, z28_7⟩ := ca8 BK320
         obtain ⟨f28_0, f28_1, f28_2, f28_3, f28_4, f28_5, f28_6, f28_7⟩ := fa8 BK320
         obtain ⟨z29_0, z29_1, z29_2, z29_3, z29_4, z29_5, z29_6, z29_7⟩ := ca8 BK321
         obtain ⟨f29_0, f29_1, f29_2, f29_3, f29_4, f29_5, f29_6, f29_7⟩ := fa8 BK321
         go_wp2
         go_ret
         exact ⟨rt, bw⟩
        ·obtain rfl := Option.some.inj H
         have hnb30 := NB320_321.out
         have hnc30 := NB321_320.out
         obtain ⟨z31_0, z31_1, z31_2, z31_3, z31_4, z31_5, z31_6, z31_7⟩ := ca8 BK320
         obtain ⟨f31_0, f31_1, f31_2, f31_3, f31_4, f31_5, f31_6, f31_7⟩ := fa8 BK320
         obtain ⟨z32_0, z32_1, z32_2, z32_3, z32_4, z32_5, z32_6, z32_7⟩ := ca8 BK321
         obtain ⟨f32_0, f32_1, f32_2, f32_3, f32_4, f32_5, f32_6, f32_7⟩ := fa8 BK321
         go_wp2
         go_ret
         exact ⟨rt, bw⟩
       ·obtain rfl := Option.some.inj H
        have hnb33 := NB320_321.out
        have hnc33 := NB321_320.out
        obtain ⟨z34_0, z34_1, z34_2, z34_3, z34_4, z34_5, z34_6, z34_7⟩ := ca8 BK320
        obtain ⟨f34_0, f34_1, f34_2, f34_3, f34_4, f34_5, f34_6, f34_7⟩ := fa8 BK320
        obtain ⟨z35_0, z35_1, z35_2, z35_3, z35_4, z35_5, z35_6, z35_7⟩ := ca8 BK321
        obtain ⟨f35_0, f35_1, f35_2, f35_3, f35_4, f35_5, f35_6, f35_7⟩ := fa8 BK321
        go_wp2
        go_ret
        exact ⟨rt, bw⟩
      ·obtain rfl := Option.some.inj H
       have hnb36 := NB320_321.out
       have hnc36 := NB321_320.out
       obtain ⟨z37_0, z37_1, z37_2, z37_3, z37_4, z37_5, z37_6, z37_7⟩ := ca8 BK320
       obtain ⟨f37_0, f37_1, f37_2, f37_3, f37_4, f37_5, f37_6, f37_7⟩ := fa8 BK320
       obtain ⟨z38_0, z38_1, z38_2, z38_3, z38_4, z38_5, z38_6, z38_7⟩ := ca8 BK321
       obtain ⟨f38_0, f38_1, f38_2, f38_3, f38_4, f38_5, f38_6, f38_7⟩ := fa8 BK321
       go_wp2
       go_ret
       exact ⟨rt, bw⟩
     ·obtain rfl := Option.some.inj H
      have hnb39 := NB320_321.out
      have hnc39 := NB321_320.out
      obtain ⟨z40_0, z40_1, z40_2, z40_3, z40_4, z40_5, z40_6, z40_7⟩ := ca8 BK320
      obtain ⟨f40_0, f40_1, f40_2, f40_3, f40_4, f40_5, f40_6, f40_7⟩ := fa8 BK320
      obtain ⟨z41_0, z41_1, z41_2, z41_3, z41_4, z41_5, z41_6, z41_7⟩ := ca8 BK321
      obtain ⟨f41_0, f41_1, f41_2, f41_3, f41_4, f41_5, f41_6, f41_7⟩ := fa8 BK321
      go_wp2
      go_ret
      exact ⟨rt, bw⟩
    ·obtain rfl := Option.some.inj H
     have hnb42 := NB320_321.out
     have hnc42 := NB321_320.out
     obtain ⟨z43_0, z43_1, z43_2, z43_3, z43_4, z43_5, z43_6, z43_7⟩ := ca8 BK320
     obtain ⟨f43_0, f43_1, f43_2, f43_3, f43_4, f43_5, f43_6, f43_7⟩ := fa8 BK320
     obtain ⟨z44_0, z44_1, z44_2, z44_3, z44_4, z44_5, z44_6, z44_7⟩ := ca8 BK321
     obtain ⟨f44_0, f44_1, f44_2, f44_3, f44_4, f44_5, f44_6, f44_7⟩ := fa8 BK321
     go_wp2
     go_ret
     exact ⟨rt, bw⟩
   ·(try simp only [Bool.not_true, Bool.not_false])
    obtain rfl := Option.some.inj H
    go_wp2
    go_ret
    exact ⟨rt, bw⟩
  ·(try simp only [Bool.not_true, Bool.not_false])
   obtain rfl := Option.some.inj H
   go_wp2
   go_ret
   exact ⟨rt, bw⟩
 ·(first | rw [c9b0] | (simp only [i64_w, i32_w]; rw [c9b0]) | (simp only [c9b2, Bool.not_true, Bool.not_false]) | (simp only [c9b1, Bool.not_true, Bool.not_false]) | skip)
  obtain rfl := Option.some.inj H
  go_wp2
  go_ret
  exact ⟨rt, bw⟩

end Go.Proofs.YtfhcnnkeokjfpaaDoor.PM1
