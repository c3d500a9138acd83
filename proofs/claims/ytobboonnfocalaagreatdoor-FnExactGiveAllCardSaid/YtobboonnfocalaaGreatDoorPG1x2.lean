/- What functions of the program compute, each as a Lean function, and that the run comes to just that. Conditions: none. -/
import Derived.Test.YtobboonnfocalaaGreatDoorTG1
import Derived.Test.YtobboonnfocalaaGreatDoorT2G1
import Derived.Test.YtobboonnfocalaaGreatDoorPG1x0
import Derived.Test.YtobboonnfocalaaGreatDoorPG1x1
namespace Go.Proofs.YtobboonnfocalaaGreatDoor.PG1
open Go.RowKit Go.Proofs.YtobboonnfocalaaGreatDoorW.PrintWords Go.Proofs.YtobboonnfocalaaGreatDoorW.PrintLast Go.Proofs.YtobboonnfocalaaGreatDoorW.PrintMore Go.Proofs.YtobboonnfocalaaGreatDoor.T
attribute [local go_sem] max2_int min2_int max_two min_two max_three min_three max_four min_four   -- for this text's walks alone
set_option linter.unusedVariables false
set_option linter.unusedSimpArgs false

/-! ### spec_l08Owners: function 35 -/
mutual
def spec_l08Owners.l0 : Nat → Int → List Int → Int → List Int → List (S49) → Option (List Int × Bool)
 | 0, _, _, _, _, _ => none
 | k + 1, x4, x5, x6, x253000, x253001 => if x6 < x4 then (if x5.length < 17592186044416 then (spec_l08Owners.l0 k x4 (x5 ++ [(-1)]) (wrap64 (x6 + 1)) x253000 x253001) else (none)) else (spec_l08Owners.l1 k x4 x5 0 x253000 x253001)
def spec_l08Owners.l1 : Nat → Int → List Int → Int → List Int → List (S49) → Option (List Int × Bool)
 | 0, _, _, _, _, _ => none
 | k + 1, x4, x5, x7, x253000, x253001 => if x7 < x4 then (if 0 ≤ x7 then (if x7 < (x253000.length : Int) then ((spec_CtlRead.f k (rd x253000 x7)).bind fun bt260 => (spec_l08Owners.l2 k x4 x5 x7 0 x253000 x253001 bt260.1 bt260.2.1 bt260.2.2.1 bt260.2.2.2.1)) else (none)) else (none)) else (spec_l08Owners.l3 k x4 x5 0 x253000 x253001)
def spec_l08Owners.l2 : Nat → Int → List Int → Int → Int → List Int → List (S49) → Int → Int → Int → Int → Option (List Int × Bool)
 | 0, _, _, _, _, _, _, _, _, _, _ => none
 | k + 1, x4, x5, x7, x10, x253000, x253001, x266000, x266001, x266002, x266003 => if x10 < x266003 then (if (wrap64 (x7 + x10)) ≥ x4 then (some (([] : List Int), false)) else (if 0 ≤ (wrap64 (x7 + x10)) then (if (wrap64 (x7 + x10)) < (x5.length : Int) then (if (rd x5 (wrap64 (x7 + x10))) = (-1) then (spec_l08Owners.l2 k x4 (x5.set ((wrap64 (x7 + x10)) : Int).toNat (-2)) x7 (wrap64 (x10 + 1)) x253000 x253001 x266000 x266001 x266002 x266003) else (some (([] : List Int), false))) else (none)) else (none))) else (spec_l08Owners.l1 k x4 x5 (wrap64 (x7 + 1)) x253000 x253001)
def spec_l08Owners.l3 : Nat → Int → List Int → Int → List Int → List (S49) → Option (List Int × Bool)
 | 0, _, _, _, _, _ => none
 | k + 1, x4, x5, x11, x253000, x253001 => if x11 < (x253001.length : Int) then (spec_l08Owners.l4 k x4 x5 x11 0 x253000 x253001) else (spec_l08Owners.l5 k x4 x5 0 x253000 x253001)
def spec_l08Owners.l4 : Nat → Int → List Int → Int → Int → List Int → List (S49) → Option (List Int × Bool)
 | 0, _, _, _, _, _, _ => none
 | k + 1, x4, x5, x11, x12, x253000, x253001 => if 0 ≤ x11 then (if x11 < (x253001.length : Int) then (if x12 < ((rd_T49 x253001 x11).f6) then (if (wrap64 (((rd_T49 x253001 x11).f5) + x12)) ≥ x4 then (some (([] : List Int), false)) else (if 0 ≤ (wrap64 (((rd_T49 x253001 x11).f5) + x12)) then (if (wrap64 (((rd_T49 x253001 x11).f5) + x12)) < (x5.length : Int) then (if (rd x5 (wrap64 (((rd_T49 x253001 x11).f5) + x12))) = (-1) then (spec_l08Owners.l4 k x4 (x5.set ((wrap64 (((rd_T49 x253001 x11).f5) + x12)) : Int).toNat x11) x11 (wrap64 (x12 + 1)) x253000 x253001) else (some (([] : List Int), false))) else (none)) else (none))) else (spec_l08Owners.l3 k x4 x5 (wrap64 (x11 + 1)) x253000 x253001)) else (none)) else (none)
def spec_l08Owners.l5 : Nat → Int → List Int → Int → List Int → List (S49) → Option (List Int × Bool)
 | 0, _, _, _, _, _ => none
 | k + 1, x4, x5, x14, x253000, x253001 => if x14 < x4 then (if 0 ≤ x14 then (if x14 < (x253000.length : Int) then ((spec_CtlRead.f k (rd x253000 x14)).bind fun bt273 => (if x14 < (x5.length : Int) then (if (rd x5 x14) = (-1) then (if bt273.1 = 3 then (some (([] : List Int), false)) else (if bt273.1 = 2 then (some (([] : List Int), false)) else (if (rd x5 x14) ≥ 0 then (some (([] : List Int), false)) else (if (rd x5 x14) = (-2) then (some (([] : List Int), false)) else (spec_l08Owners.l5 k x4 x5 (wrap64 (x14 + 1)) x253000 x253001))))) else (if (rd x5 x14) ≥ 0 then (if bt273.1 = 3 then (if (rd x5 x14) = (-2) then (spec_l08Owners.l5 k x4 x5 (wrap64 (x14 + 1)) x253000 x253001) else (spec_l08Owners.l5 k x4 x5 (wrap64 (x14 + 1)) x253000 x253001)) else (some (([] : List Int), false))) else (if (rd x5 x14) = (-2) then (if bt273.1 = 3 then (spec_l08Owners.l5 k x4 x5 (wrap64 (x14 + 1)) x253000 x253001) else (if bt273.1 = 2 then (spec_l08Owners.l5 k x4 x5 (wrap64 (x14 + 1)) x253000 x253001) else (some (([] : List Int), false)))) else (spec_l08Owners.l5 k x4 x5 (wrap64 (x14 + 1)) x253000 x253001)))) else (none))) else (none)) else (none)) else (some (x5, true))
end
def spec_l08Owners.f (k : Nat) (l0_0 : List Int) (l0_1 : List (S49)) : Option (List Int × Bool) := spec_l08Owners.l0 k (l0_0.length : Int) (([] : List Int)) 0 l0_0 l0_1
theorem spec_l08Owners.mono_l : ∀ k, (∀ y0 y1 y2 y3 y4, LeO (spec_l08Owners.l0 k y0 y1 y2 y3 y4) (spec_l08Owners.l0 (k + 1) y0 y1 y2 y3 y4)) ∧ (∀ y0 y1 y2 y3 y4, LeO (spec_l08Owners.l1 k y0 y1 y2 y3 y4) (spec_l08Owners.l1 (k + 1) y0 y1 y2 y3 y4)) ∧ (∀ y0 y1 y2 y3 y4 y5 y6 y7 y8 y9, LeO (spec_l08Owners.l2 k y0 y1 y2 y3 y4 y5 y6 y7 y8 y9) (spec_l08Owners.l2 (k + 1) y0 y1 y2 y3 y4 y5 y6 y7 y8 y9)) ∧ (∀ y0 y1 y2 y3 y4, LeO (spec_l08Owners.l3 k y0 y1 y2 y3 y4) (spec_l08Owners.l3 (k + 1) y0 y1 y2 y3 y4)) ∧ (∀ y0 y1 y2 y3 y4 y5, LeO (spec_l08Owners.l4 k y0 y1 y2 y3 y4 y5) (spec_l08Owners.l4 (k + 1) y0 y1 y2 y3 y4 y5)) ∧ (∀ y0 y1 y2 y3 y4, LeO (spec_l08Owners.l5 k y0 y1 y2 y3 y4) (spec_l08Owners.l5 (k + 1) y0 y1 y2 y3 y4))
 | 0 => ⟨fun _ _ _ _ _ r h => by simp [spec_l08Owners.l0] at h, fun _ _ _ _ _ r h => by simp [spec_l08Owners.l1] at h, fun _ _ _ _ _ _ _ _ _ _ r h => by simp [spec_l08Owners.l2] at h, fun _ _ _ _ _ r h => by simp [spec_l08Owners.l3] at h, fun _ _ _ _ _ _ r h => by simp [spec_l08Owners.l4] at h, fun _ _ _ _ _ r h => by simp [spec_l08Owners.l5] at h⟩
 | k + 1 => by
  obtain ⟨ih0, ih1, ih2, ih3, ih4, ih5⟩ := spec_l08Owners.mono_l k
  refine ⟨?_, ?_, ?_, ?_, ?_, ?_⟩
  ·intro y0 y1 y2 y3 y4
   unfold spec_l08Owners.l0
   repeat' first
    | (with_reducible first | exact ih0 .. | exact ih1 .. | exact ih2 .. | exact ih3 .. | exact ih4 .. | exact ih5 .. | exact spec_CtlRead.mono .. | exact LeO.refl _ | exact LeO.none _ | refine LeO.ite ?_ ?_ | refine LeO.bind ?_ (fun _ => ?_))
    | exact LeO.none _ | refine LeO.ite ?_ ?_ | refine LeO.bind ?_ (fun _ => ?_)
  ·intro y0 y1 y2 y3 y4
   unfold spec_l08Owners.l1
   repeat' first
    | (with_reducible first | exact ih0 .. | exact ih1 .. | exact ih2 .. | exact ih3 .. | exact ih4 .. | exact ih5 .. | exact spec_CtlRead.mono .. | exact LeO.refl _ | exact LeO.none _ | refine LeO.ite ?_ ?_ | refine LeO.bind ?_ (fun _ => ?_))
    | exact LeO.none _ | refine LeO.ite ?_ ?_ | refine LeO.bind ?_ (fun _ => ?_)
  ·intro y0 y1 y2 y3 y4 y5 y6 y7 y8 y9
   unfold spec_l08Owners.l2
   repeat' first
    | (with_reducible first | exact ih0 .. | exact ih1 .. | exact ih2 .. | exact ih3 .. | exact ih4 .. | exact ih5 .. | exact spec_CtlRead.mono .. | exact LeO.refl _ | exact LeO.none _ | refine LeO.ite ?_ ?_ | refine LeO.bind ?_ (fun _ => ?_))
    | exact LeO.none _ | refine LeO.ite ?_ ?_ | refine LeO.bind ?_ (fun _ => ?_)
  ·intro y0 y1 y2 y3 y4
   unfold spec_l08Owners.l3
   repeat' first
    | (with_reducible first | exact ih0 .. | exact ih1 .. | exact ih2 .. | exact ih3 .. | exact ih4 .. | exact ih5 .. | exact spec_CtlRead.mono .. | exact LeO.refl _ | exact LeO.none _ | refine LeO.ite ?_ ?_ | refine LeO.bind ?_ (fun _ => ?_))
    | exact LeO.none _ | refine LeO.ite ?_ ?_ | refine LeO.bind ?_ (fun _ => ?_)
  ·intro y0 y1 y2 y3 y4 y5
   unfold spec_l08Owners.l4
   repeat' first
    | (with_reducible first | exact ih0 .. | exact ih1 .. | exact ih2 .. | exact ih3 .. | exact ih4 .. | exact ih5 .. | exact spec_CtlRead.mono .. | exact LeO.refl _ | exact LeO.none _ | refine LeO.ite ?_ ?_ | refine LeO.bind ?_ (fun _ => ?_))
    | exact LeO.none _ | refine LeO.ite ?_ ?_ | refine LeO.bind ?_ (fun _ => ?_)
  ·intro y0 y1 y2 y3 y4
   unfold spec_l08Owners.l5
   repeat' first
    | (with_reducible first | exact ih0 .. | exact ih1 .. | exact ih2 .. | exact ih3 .. | exact ih4 .. | exact ih5 .. | exact spec_CtlRead.mono .. | exact LeO.refl _ | exact LeO.none _ | refine LeO.ite ?_ ?_ | refine LeO.bind ?_ (fun _ => ?_))
    | exact LeO.none _ | refine LeO.ite ?_ ?_ | refine LeO.bind ?_ (fun _ => ?_)
theorem spec_l08Owners.mono : ∀ a0 a1 k, LeO (spec_l08Owners.f k a0 a1) (spec_l08Owners.f (k + 1) a0 a1) := by
 intro a0 a1 k
 obtain ⟨ih0, ih1, ih2, ih3, ih4, ih5⟩ := spec_l08Owners.mono_l k
 unfold spec_l08Owners.f
 repeat' first
  | (with_reducible first | exact ih0 .. | exact ih1 .. | exact ih2 .. | exact ih3 .. | exact ih4 .. | exact ih5 .. | exact spec_CtlRead.mono .. | exact LeO.refl _ | exact LeO.none _ | refine LeO.ite ?_ ?_ | refine LeO.bind ?_ (fun _ => ?_))
  | exact LeO.none _ | refine LeO.ite ?_ ?_ | refine LeO.bind ?_ (fun _ => ?_)
set_option maxHeartbeats 8000000 in
set_option maxRecDepth 100000 in
theorem spec_l08Owners.calls (k : Nat) (A0_0 : Option Addr) (c0_0 : Nat) (l0_0 : List Int) (A0_1 : Option Addr) (c0_1 : Nat) (l0_1 : List (S49)) (r1 : List Int) (r2 : Bool) (w : World) (hr0_0 : Kd.C (Kd.int .u32) w A0_0 l0_0.length l0_0) (hc0_0 : l0_0.length ≤ c0_0) (hr0_1 : Kd.C k49 w A0_1 l0_1.length l0_1) (hc0_1 : l0_1.length ≤ c0_1) (h : spec_l08Owners.f k l0_0 l0_1 = some (r1, r2)) :
  Calls Tryz.prog 35 #[.agg #[.slice A0_0 l0_0.length c0_0, .slice A0_1 l0_1.length c0_1]] w fun e w' => ∃ v0_ : Value, e = .returned (.tuple #[v0_, .bool r2]) ∧ Kd.R (Kd.int .i64) 3 w' w.heap.size (fun _ => True) v0_ r1 ∧ Below w.heap.size w w' := by
 have hu37 := Tryz.underlying37
 have hu75 := Tryz.underlying75
 have HR0_0 := Aside0.mk hr0_0
 have HC0_0 := Aside0.mk hc0_0
 clear hr0_0 hc0_0
 have HR0_1 := Aside0.mk hr0_1
 have HC0_1 := Aside0.mk hc0_1
 clear hr0_1 hc0_1
 have HB := Aside0.mk (Below.refl w.heap.size w)
 unfold spec_l08Owners.f at h
 have H := h
 clear h
 obtain ⟨y253, hy253⟩ : ∃ y_ : List Int, y_ = (([] : List Int)) := ⟨_, rfl⟩
 rw [← hy253] at H
 try with_reducible replace H := bs H
 have Ny253 := Aside0.mk hy253
 clear hy253
 have H' := Aside0.mk H
 clear H
 go_enter Tryz.func35, Tryz.ntmps35
 go_wp2_with (first | ((with_reducible refine gd 1 ?_); refine bx 1 37 #[.slice A0_0 l0_0.length c0_0, .slice A0_1 l0_1.length c0_1] ?_; clear HB; intro gb252 w2 hg BK252 hb GE252 HB; clear hb hg; obtain ⟨z3_0, z3_1⟩ := ca2 BK252; obtain ⟨f3_0, f3_1⟩ := fa2 BK252) | ((with_reducible refine gate_dst (N := 23) rfl ?_); refine Kd.R_lit (Kd.int .i64) _ 3 ?hg (N := 23) ?hd (xs := ([] : List Int)) (inner := []) (ok := fun _ => True) (okp := fun _ => True) ?hr ?hp (fun _ hk => hk) trivial (Below.refl _ _) (Nat.le_refl _) (by simp) ?_; (case hd => rfl); (case hg => rfl); (case hr => first | (go_simp; done) | (go_simp; rfl)); (case hp => exact (Reps.none _ _)); intro v254 w4 ho5 hb hg_ hnew_; clear hg_ hnew_; (first | rw [← Ny253.out] at ho5 | (simp only [Int.reduceToNat] at ho5; rw [← Ny253.out] at ho5)); have HO255 := Aside0.mk (Kd.R_lower ho5 (below_size bw)); replace BK252 := b_ BK252 hb; replace HB := hs hb; clear hb ho5))
 go_loopg [5, 6] k (fun kq v5 v6 w' => ∃ (x5_1 : List Int) (x6_1 : Int), v6 = .int .i64 x6_1 ∧ Aside0 (spec_l08Owners.l0 kq (l0_0.length : Int) x5_1 x6_1 l0_0 l0_1 = some (r1, r2)) ∧ Aside0 (kq ≤ k) ∧ Aside0 (Kd.R (Kd.int .i64) 3 w' w.heap.size (fun _ => True) v5 x5_1) ∧ Aside0 (w'.heap[gb252]? = some (.cells #[(.slice A0_0 l0_0.length c0_0), (.slice A0_1 l0_1.length c0_1)] 37 (0, 0))) ∧ Aside0 (Below w.heap.size w w'))
 case atStart => exact ⟨(y253), (0), ev, H', ⟨Nat.le_refl _⟩, ⟨ro HO255⟩, ⟨bk BK252⟩, ⟨bw⟩⟩
 case round =>
  clear H'
  (try clear z3_0 z3_1)
  (try clear f3_0 f3_1)
  obtain ⟨x5_1, x6_1, rfl, HA, HK1, HO_5, BK252, HB⟩ := hrel
  cases gk with
  | zero => exact absurd HA.out (by simp [spec_l08Owners.l0])
  | succ k1 =>
   have H := HA.out
   clear HA
   simp only [spec_l08Owners.l0] at H
   replace H := ilt H
   rcases H with ⟨c6b0, H⟩ | ⟨c6b0, H⟩
   ·by_cases c7 : x5_1.length < 17592186044416
    ·rw [if_pos c7] at H
     have LMc7 := Aside0.mk c7
     clear c7
     obtain ⟨y256, hy256⟩ : ∃ y_ : List Int, y_ = (x5_1 ++ [(-1)]) := ⟨_, rfl⟩
     rw [← hy256] at H
     try with_reducible replace H := bs H
     have Ny256 := Aside0.mk hy256
     clear hy256
     have H' := Aside0.mk H
     clear H
     go_wp2_with (first | ((with_reducible refine gate_builtin (b := .append) (xs := #[.tmp 29, .tmp 30]) rfl ?_); at_builtin; refine Kd.R_append (Kd.int .i64) (w0 := w) w.heap.size rfl (.tmp 29) (.tmp 30) 29 3 (.int .i64 0) 8 rfl Tryz.underlying29 info3 rfl (by decide) (by omega) u5 x5_1 (-1) [.int .i64 (-1)] (fun _ => True) (fun _ => False) rfl rfl ?aP (fun _ hk => hk.elim) ?aF ?aO ?aB ?aS ?aL ?_; (case aP => exact rfl); (case aB => exact bw); (case aF => exact (fun _ _ => trivial)); (case aO => exact (ro HO_5)); (case aS => exact (below_size bw)); (case aL => have := LMc7.out; omega); intro v257 w8 ho hb hg hat; rw [← Ny256.out] at ho; replace BK252 := bg BK252 hg (Kd.R_ne HO_5.out BK252.out (by decide)); have HO258 := Aside0.mk (ho); replace HB := Aside0.mk (hb); clear HO_5; clear ho hb hg hat))
     go_roundg k1
     case measure => have := HK1.out; omega
     case rel => exact ⟨(y256), (wrap64 (x6_1 + 1)), ev, H', ⟨oa HK1⟩, ⟨ro HO258⟩, ⟨bk BK252⟩, ⟨bw⟩⟩
    ·rw [if_neg c7] at H
     exact absurd H (by simp)
   ·have H' := Aside0.mk H
    clear H
    go_wp2
    go_loopg [7] k1 (fun kq v7 w' => ∃ (x5_2 : List Int) (x7_2 : Int), v7 = .int .i64 x7_2 ∧ Aside0 (spec_l08Owners.l1 kq (l0_0.length : Int) x5_2 x7_2 l0_0 l0_1 = some (r1, r2)) ∧ Aside0 (kq ≤ k1) ∧ Aside0 (Kd.R (Kd.int .i64) 3 w' w.heap.size (fun _ => True) u5 x5_2) ∧ Aside0 (w'.heap[gb252]? = some (.cells #[(.slice A0_0 l0_0.length c0_0), (.slice A0_1 l0_1.length c0_1)] 37 (0, 0))) ∧ Aside0 (Below w.heap.size w w'))
    case atStart => exact ⟨(x5_1), (0), ev, H', ⟨Nat.le_refl _⟩, ⟨ro HO_5⟩, ⟨bk BK252⟩, ⟨bw⟩⟩
    case round =>
     clear H'
     try clear c6
     try clear c6b0
     (try clear z3_0 z3_1)
     (try clear f3_0 f3_1)
     obtain ⟨x5_2, x7_2, rfl, HA, HK2, HO_5, BK252, HB⟩ := hrel
     cases gk with
     | zero => exact absurd HA.out (by simp [spec_l08Owners.l1])
     | succ k2 =>
      have H := HA.out
      clear HA
      simp only [spec_l08Owners.l1] at H
      replace H := ilt H
      rcases H with ⟨c9b0, H⟩ | ⟨c9b0, H⟩
      ·by_cases c10 : 0 ≤ x7_2
       ·rw [if_pos c10] at H
        have c10b0 : decide (0 ≤ x7_2) = true := decide_eq_true c10
        clear c10
        by_cases c11 : x7_2 < (l0_0.length : Int)
        ·rw [if_pos c11] at H
         have c11b0 : decide (x7_2 < (l0_0.length : Int)) = true := decide_eq_true c11
         clear c11
         replace H := bn H
         obtain ⟨⟨t260, t261, t262, t263, t264⟩, A12, H⟩ := H
         try dsimp only at H
         have H' := Aside0.mk H
         clear H
         obtain ⟨z13_0, z13_1⟩ := ca2 BK252
         obtain ⟨f13_0, f13_1⟩ := fa2 BK252
         have p259 : 0 ≤ (x7_2 : Int) := of_decide_eq_true as_
         have q259 : x7_2 < (l0_0.length : Int) := of_decide_eq_true as_
         obtain ⟨ad259, e259, hx259_0⟩ := Kd.at_int HR0_0.out x7_2 p259 q259
         cases e259
         replace hx259_0 := cl HB hx259_0
         replace p259 := eq_true p259
         replace q259 := eq_true q259
         go_wp2_with (first | ((with_reducible refine gf 36 ?_); refine gc Tryz.func36 (some 44) (spec_CtlRead.calls _ _ _ _ _ _ _ _ A12.out) ?_; rintro e w14 ⟨rfl, hb⟩; refine ⟨_, rfl, ?_⟩; replace HO_5 := Aside0.mk (Kd.R_below (ro HO_5) hb); replace BK252 := b_ BK252 hb; replace HB := hs hb; try clear hb) | ((with_reducible refine gd 8 ?_); refine bx 8 75 #[.int .i64 0, .int .i64 0, .int .u32 0, .int .i64 0] ?_; clear HB; intro gb265 w15 hg BK265 hb GE265 HB; replace HO_5 := Aside0.mk (Kd.R_below (ro HO_5) hb); have NB252_265 := nl BK252 hg; have NB265_252 := ng BK252 hg; replace BK252 := b_ BK252 hb; clear hb hg; have hnb16 := NB265_252.out; have hnc16 := NB252_265.out; obtain ⟨z17_0, z17_1, z17_2, z17_3⟩ := ca4 BK265; obtain ⟨f17_0, f17_1, f17_2, f17_3⟩ := fa4 BK265))
         go_loopg [10] k2 (fun kq v10 w' => ∃ (x5_3 : List Int) (x10_3 : Int), v10 = .int .i64 x10_3 ∧ Aside0 (spec_l08Owners.l2 kq (l0_0.length : Int) x5_3 x7_2 x10_3 l0_0 l0_1 t260 t261 t262 t263 = some (r1, r2)) ∧ Aside0 (kq ≤ k2) ∧ Aside0 (Kd.R (Kd.int .i64) 3 w' w.heap.size (fun _ => True) u5 x5_3) ∧ Aside0 (w'.heap[gb252]? = some (.cells #[(.slice (some ad259) l0_0.length c0_0), (.slice A0_1 l0_1.length c0_1)] 37 (0, 0))) ∧ Aside0 (w'.heap[gb265]? = some (.cells #[.int .i64 t260, .int .i64 t261, .int .u32 t262, .int .i64 t263] 75 (0, 0))) ∧ Aside0 (Below w.heap.size w w'))
         case atStart => exact ⟨(x5_2), (0), ev, H', ⟨Nat.le_refl _⟩, ⟨by (with_reducible repeat (first | apply Kd.R_alloc | apply Kd.R_drewN | apply Kd.R_drew)); exact Kd.R_mono (Kd.R_far (p := ⟨gb265, 3, none⟩) (Kd.R_far (p := ⟨gb265, 2, none⟩) (Kd.R_far (p := ⟨gb265, 1, none⟩) (Kd.R_far (p := ⟨gb265, 0, none⟩) (Kd.R_types HO_5.out BK265.out (by decide)) (fun _ hk => hk.2) (.int .i64 t260)) (fun _ hk => hk.2) (.int .i64 t261)) (fun _ hk => hk.2) (.int .u32 t262)) (fun _ hk => hk.2) (.int .i64 t263)) (fun _ hk => trivial)⟩, ⟨bk BK252⟩, ⟨bp BK265⟩, ⟨bw⟩⟩
         case round =>
          clear H'
          try clear c6
          try clear c6b0
          try clear c9
          try clear c9b0
          try clear c10
          try clear c10b0
          try clear c11
          try clear c11b0
          (try clear z13_0 z13_1)
          (try clear z17_0 z17_1 z17_2 z17_3)
          (try clear z3_0 z3_1)
          (try clear f13_0 f13_1)
          (try clear f17_0 f17_1 f17_2 f17_3)
          (try clear f3_0 f3_1)
          try clear hx259_0
          try clear p259
          try clear q259
          obtain ⟨x5_3, x10_3, rfl, HA, HK3, HO_5, BK252, BK265, HB⟩ := hrel
          cases gk with
          | zero => exact absurd HA.out (by simp [spec_l08Owners.l2])
          | succ k3 =>
           have H := HA.out
           clear HA
           simp only [spec_l08Owners.l2] at H
           replace H := ilt H
           rcases H with ⟨c18b0, H⟩ | ⟨c18b0, H⟩
           ·replace H := ige H
            rcases H with ⟨c19b0, H⟩ | ⟨c19b0, H⟩
            ·simp only [Option.some.injEq, Prod.mk.injEq] at H
             obtain ⟨rfl, rfl⟩ := H
             have hnb20 := NB265_252.out
             have hnc20 := NB252_265.out
             obtain ⟨z21_0, z21_1, z21_2, z21_3⟩ := ca4 BK265
             obtain ⟨f21_0, f21_1, f21_2, f21_3⟩ := fa4 BK265
             go_wp2
             go_ret2
             exact ⟨_, rt, by first | exact Kd.R_nil _ _ _ _ _ | exact Kd.N_nil _ _ _ _ _ | exact Kd.V_nil _ _ _ _ _ | exact Kd.Q_nil _ _ _ _ _ | exact Kd.S_nil _ _ _ _ _, bw⟩
            ·obtain ⟨ji22, hji22⟩ : ∃ j_ : Int, (wrap64 (x7_2 + x10_3)) = j_ := ⟨_, rfl⟩
             first | rw [hji22] at H | simp only [hji22] at H
             (try rw [hji22] at c19b0)
             have hji22w : (IntKind.i64.wrap (x7_2 + x10_3)) = ji22 := (i64_w _).trans hji22
             by_cases c23 : 0 ≤ (ji22)
             ·rw [if_pos c23] at H
              have c23b0 : decide (0 ≤ (ji22)) = true := decide_eq_true c23
              clear c23
              by_cases c24 : (ji22) < (x5_3.length : Int)
              ·rw [if_pos c24] at H
               have c24b0 : decide ((ji22) < (x5_3.length : Int)) = true := decide_eq_true c24
               clear c24
               replace H := ieq H
               rcases H with ⟨c25b0, c25b1, H⟩ | ⟨c25, c25b0, c25b1, H⟩
               ·obtain ⟨y267, hy267⟩ : ∃ y_ : List Int, y_ = (x5_3.set ((ji22) : Int).toNat (-2)) := ⟨_, rfl⟩
                rw [← hy267] at H
                try with_reducible replace H := bs H
                have Ny267 := Aside0.mk hy267
                clear hy267
                have H' := Aside0.mk H
                clear H
                have hnb27 := NB265_252.out
                have hnc27 := NB252_265.out
                obtain ⟨z28_0, z28_1, z28_2, z28_3⟩ := ca4 BK265
                obtain ⟨f28_0, f28_1, f28_2, f28_3⟩ := fa4 BK265
                obtain ⟨Ao29, co29, eo29⟩ := Kd.R_slice HO_5.out
                subst eo29
                have p266 : 0 ≤ ((ji22) : Int) := of_decide_eq_true as_
                have q266 : (ji22) < (x5_3.length : Int) := of_decide_eq_true as_
                obtain ⟨ad266, e266, hx266_0⟩ := Kd.at_int (Kd.R_reads' HO_5.out).2.2 (ji22) p266 q266
                cases e266
                replace p266 := eq_true p266
                replace q266 := eq_true q266
                have p26 : 0 ≤ ((ji22) : Int) := of_decide_eq_true as_
                have q26 : ((ji22) : Int) < ((x5_3.length : Int) : Int) := of_decide_eq_true as_
                obtain ⟨go26, co26, eo26, gb26, gl26, cl26, HG26⟩ := Kd.R_form HO_5.out (by omega)
                (first | cases eo26 | (injection eo26 with ea_ en_ ec_; (first | subst ea_ | (injection ea_ with ea_; subst ea_)); subst ec_; clear en_))
                have GB26 := Aside0.mk gb26
                have GG26 := Aside0.mk HG26
                clear gb26 gl26 HG26
                (first | simp only [add_plain] at hx266_0 | skip)
                obtain ⟨hx26_0, hf26_0⟩ := Kd.R_celln 0 HO_5.out ((ji22) : Int) p26 q26
                replace p26 := eq_true p26
                replace q26 := eq_true q26
                have HP30 := Kd.R_putg HO_5.out ((ji22) : Int) (-2)
                go_wp2_with (first | ((with_reducible refine gate_store (t := 3) (p := 71) rfl ?_); refine store_event (t := 3) (p := 71) (v := ?vo_w31) (w1 := (wr.setCell ⟨go26, ((ji22) : Int).toNat, none⟩ (.int .i64 (-2)))) ?hg ?ho ?hn ?hr ?_; (case ho => rfl); (case hg => rfl); (case hn => rfl); (case hr => first | (go_simp; done) | (go_simp; rfl)); intro w31 hw; have hg : wr.grownBy w31 (some go26) := (by rw [hw]; exact HP30.2); have hp_ : Kd.R (Kd.int .i64) 3 w31 w.heap.size (fun _ => True) (.slice (some ⟨go26, 0, none⟩) x5_3.length co29) y267 := (by rw [hw, Ny267.out]; exact HP30.1); clear HP30; replace BK252 := bg BK252 hg (Kd.R_ne HO_5.out BK252.out (by decide)); replace BK265 := bg BK265 hg (Kd.R_ne HO_5.out BK265.out (by decide)); replace HO_5 := Aside0.mk (hp_); replace HB := Aside0.mk ((by rw [hw]; exact below_set (HB.out) GB26.out : Below w.heap.size w w31)); clear hg hw hp_))
                go_roundg k3
                case measure => have := HK1.out; have := HK2.out; have := HK3.out; omega
                case rel => exact ⟨(y267), (wrap64 (x10_3 + 1)), ev, H', ⟨by have := HK1.out; have := HK2.out; have := HK3.out; omega⟩, ⟨ro HO_5⟩, ⟨bk BK252⟩, ⟨bk BK265⟩, ⟨bw⟩⟩
               ·simp only [Option.some.injEq, Prod.mk.injEq] at H
                obtain ⟨rfl, rfl⟩ := H
                have hnb32 := NB265_252.out
                have hnc32 := NB252_265.out
                obtain ⟨z33_0, z33_1, z33_2, z33_3⟩ := ca4 BK265
                obtain ⟨f33_0, f33_1, f33_2, f33_3⟩ := fa4 BK265
                obtain ⟨Ao34, co34, eo34⟩ := Kd.R_slice HO_5.out
                subst eo34
                have p266 : 0 ≤ ((ji22) : Int) := of_decide_eq_true as_
                have q266 : (ji22) < (x5_3.length : Int) := of_decide_eq_true as_
                obtain ⟨ad266, e266, hx266_0⟩ := Kd.at_int (Kd.R_reads' HO_5.out).2.2 (ji22) p266 q266
                cases e266
                replace p266 := eq_true p266
                replace q266 := eq_true q266
                go_wp2
                go_ret2
                exact ⟨_, by first | exact rt1 | (simp only [← hji22]; exact rt1) | exact rt, by first | exact Kd.R_nil _ _ _ _ _ | exact Kd.N_nil _ _ _ _ _ | exact Kd.V_nil _ _ _ _ _ | exact Kd.Q_nil _ _ _ _ _ | exact Kd.S_nil _ _ _ _ _, bw⟩
              ·rw [if_neg c24] at H
               exact absurd H (by simp)
             ·rw [if_neg c23] at H
              exact absurd H (by simp)
           ·have H' := Aside0.mk H
            clear H
            have hnb35 := NB265_252.out
            have hnc35 := NB252_265.out
            obtain ⟨z36_0, z36_1, z36_2, z36_3⟩ := ca4 BK265
            obtain ⟨f36_0, f36_1, f36_2, f36_3⟩ := fa4 BK265
            go_wp2
            go_roundg k3
            case measure => have := HK1.out; have := HK2.out; have := HK3.out; omega
            case rel => exact ⟨(x5_3), (wrap64 (x7_2 + 1)), ev, H', ⟨by have := HK1.out; have := HK2.out; have := HK3.out; omega⟩, ⟨ro HO_5⟩, ⟨bk BK252⟩, ⟨bw⟩⟩
        ·rw [if_neg c11] at H
         exact absurd H (by simp)
       ·rw [if_neg c10] at H
        exact absurd H (by simp)
      ·have H' := Aside0.mk H
       clear H
       go_wp2
       go_loopg [11] k2 (fun kq v11 w' => ∃ (x5_3 : List Int) (x11_3 : Int), v11 = .int .i64 x11_3 ∧ Aside0 (spec_l08Owners.l3 kq (l0_0.length : Int) x5_3 x11_3 l0_0 l0_1 = some (r1, r2)) ∧ Aside0 (kq ≤ k2) ∧ Aside0 (Kd.R (Kd.int .i64) 3 w' w.heap.size (fun _ => True) u5 x5_3) ∧ Aside0 (w'.heap[gb252]? = some (.cells #[(.slice A0_0 l0_0.length c0_0), (.slice A0_1 l0_1.length c0_1)] 37 (0, 0))) ∧ Aside0 (Below w.heap.size w w'))
       case atStart => exact ⟨(x5_2), (0), ev, H', ⟨Nat.le_refl _⟩, ⟨ro HO_5⟩, ⟨bk BK252⟩, ⟨bw⟩⟩
       case round =>
        clear H'
        try clear c6
        try clear c6b0
        try clear c9
        try clear c9b0
        (try clear z3_0 z3_1)
        (try clear f3_0 f3_1)
        obtain ⟨x5_3, x11_3, rfl, HA, HK3, HO_5, BK252, HB⟩ := hrel
        cases gk with
        | zero => exact absurd HA.out (by simp [spec_l08Owners.l3])
        | succ k3 =>
         have H := HA.out
         clear HA
         simp only [spec_l08Owners.l3] at H
         replace H := ilt H
         rcases H with ⟨c37b0, H⟩ | ⟨c37b0, H⟩
         ·have H' := Aside0.mk H
          clear H
          obtain ⟨z38_0, z38_1⟩ := ca2 BK252
          obtain ⟨f38_0, f38_1⟩ := fa2 BK252
          go_wp2
          go_loopg [12] k3 (fun kq v12 w' => ∃ (x5_4 : List Int) (x12_4 : Int), v12 = .int .i64 x12_4 ∧ Aside0 (spec_l08Owners.l4 kq (l0_0.length : Int) x5_4 x11_3 x12_4 l0_0 l0_1 = some (r1, r2)) ∧ Aside0 (kq ≤ k3) ∧ Aside0 (Kd.R (Kd.int .i64) 3 w' w.heap.size (fun _ => True) u5 x5_4) ∧ Aside0 (w'.heap[gb252]? = some (.cells #[(.slice A0_0 l0_0.length c0_0), (.slice A0_1 l0_1.length c0_1)] 37 (0, 0))) ∧ Aside0 (Below w.heap.size w w'))
          case atStart => exact ⟨(x5_3), (0), ev, H', ⟨Nat.le_refl _⟩, ⟨ro HO_5⟩, ⟨bk BK252⟩, ⟨bw⟩⟩
          case round =>
           clear H'
           try clear c6
           try clear c6b0
           try clear c9
           try clear c9b0
           try clear c37
           try clear c37b0
           (try clear z38_0 z38_1)
           (try clear z3_0 z3_1)
           (try clear f38_0 f38_1)
           (try clear f3_0 f3_1)
           obtain ⟨x5_4, x12_4, rfl, HA, HK4, HO_5, BK252, HB⟩ := hrel
           cases gk with
           | zero => exact absurd HA.out (by simp [spec_l08Owners.l4])
           | succ k4 =>
            have H := HA.out
            clear HA
            simp only [spec_l08Owners.l4] at H
            by_cases c39 : 0 ≤ x11_3
            ·rw [if_pos c39] at H
             have c39b0 : decide (0 ≤ x11_3) = true := decide_eq_true c39
             clear c39
             by_cases c40 : x11_3 < (l0_1.length : Int)
             ·rw [if_pos c40] at H
              have c40b0 : decide (x11_3 < (l0_1.length : Int)) = true := decide_eq_true c40
              clear c40
              replace H := ilt H
              rcases H with ⟨c41b0, H⟩ | ⟨c41b0, H⟩
              ·replace H := ige H
               rcases H with ⟨c42b0, H⟩ | ⟨c42b0, H⟩
               ·simp only [Option.some.injEq, Prod.mk.injEq] at H
                obtain ⟨rfl, rfl⟩ := H
                obtain ⟨z43_0, z43_1⟩ := ca2 BK252
                obtain ⟨f43_0, f43_1⟩ := fa2 BK252
                have p268 : 0 ≤ (x11_3 : Int) := of_decide_eq_true as_
                have q268 : x11_3 < (l0_1.length : Int) := of_decide_eq_true as_
                obtain ⟨ad268, A268_1, c268_1, A268_2, c268_2, e268, hx268_0, hx268_1, hx268_2, hx268_3, hx268_4, hx268_5, hx268_6, hx268_7, hl268_1, hi268_1, hl268_2, hi268_2⟩ := at_T49 HR0_1.out x11_3 p268 q268
                cases e268
                replace hx268_0 := cl HB hx268_0
                replace hx268_1 := cl HB hx268_1
                replace hx268_2 := cl HB hx268_2
                replace hx268_3 := cl HB hx268_3
                replace hx268_4 := cl HB hx268_4
                replace hx268_5 := cl HB hx268_5
                replace hx268_6 := cl HB hx268_6
                replace hx268_7 := cl HB hx268_7
                have HR268_1 := Aside0.mk hi268_1
                have HC268_1 := Aside0.mk hl268_1
                clear hi268_1 hl268_1
                have HR268_2 := Aside0.mk hi268_2
                have HC268_2 := Aside0.mk hl268_2
                clear hi268_2 hl268_2
                replace p268 := eq_true p268
                replace q268 := eq_true q268
                have p269 : 0 ≤ (x11_3 : Int) := of_decide_eq_true as_
                have q269 : x11_3 < (l0_1.length : Int) := of_decide_eq_true as_
                obtain ⟨ad269, A269_1, c269_1, A269_2, c269_2, e269, hx269_0, hx269_1, hx269_2, hx269_3, hx269_4, hx269_5, hx269_6, hx269_7, hl269_1, hi269_1, hl269_2, hi269_2⟩ := at_T49 HR0_1.out x11_3 p269 q269
                obtain rfl : ad268 = ad269 := (by injection e269)
                replace hx269_0 := cl HB hx269_0
                replace hx269_1 := cl HB hx269_1
                replace hx269_2 := cl HB hx269_2
                replace hx269_3 := cl HB hx269_3
                replace hx269_4 := cl HB hx269_4
                replace hx269_5 := cl HB hx269_5
                replace hx269_6 := cl HB hx269_6
                replace hx269_7 := cl HB hx269_7
                have HR269_1 := Aside0.mk hi269_1
                have HC269_1 := Aside0.mk hl269_1
                clear hi269_1 hl269_1
                have HR269_2 := Aside0.mk hi269_2
                have HC269_2 := Aside0.mk hl269_2
                clear hi269_2 hl269_2
                replace p269 := eq_true p269
                replace q269 := eq_true q269
                have ea_ := Option.some.inj (hx268_1.symm.trans hx269_1)
                injection ea_ with ea_ en_ ec_
                subst ea_
                subst ec_
                clear en_
                have ea_ := Option.some.inj (hx268_2.symm.trans hx269_2)
                injection ea_ with ea_ en_ ec_
                subst ea_
                subst ec_
                clear en_
                go_wp2
                go_ret2
                exact ⟨_, rt, by first | exact Kd.R_nil _ _ _ _ _ | exact Kd.N_nil _ _ _ _ _ | exact Kd.V_nil _ _ _ _ _ | exact Kd.Q_nil _ _ _ _ _ | exact Kd.S_nil _ _ _ _ _, bw⟩
               ·obtain ⟨ji44, hji44⟩ : ∃ j_ : Int, (wrap64 (((rd_T49 l0_1 x11_3).f5) + x12_4)) = j_ := ⟨_, rfl⟩
                first | rw [hji44] at H | simp only [hji44] at H
                (try rw [hji44] at c42b0)
                have hji44w : (IntKind.i64.wrap (((rd_T49 l0_1 x11_3).f5) + x12_4)) = ji44 := (i64_w _).trans hji44
                by_cases c45 : 0 ≤ (ji44)
                ·rw [if_pos c45] at H
                 have c45b0 : decide (0 ≤ (ji44)) = true := decide_eq_true c45
                 clear c45
                 by_cases c46 : (ji44) < (x5_4.length : Int)
                 ·rw [if_pos c46] at H
                  have c46b0 : decide ((ji44) < (x5_4.length : Int)) = true := decide_eq_true c46
                  clear c46
                  replace H := ieq H
                  rcases H with ⟨c47b0, c47b1, H⟩ | ⟨c47, c47b0, c47b1, H⟩
                  ·obtain ⟨y271, hy271⟩ : ∃ y_ : List Int, y_ = (x5_4.set ((ji44) : Int).toNat x11_3) := ⟨_, rfl⟩
                   rw [← hy271] at H
                   try with_reducible replace H := bs H
                   have Ny271 := Aside0.mk hy271
                   clear hy271
                   have H' := Aside0.mk H
                   clear H
                   obtain ⟨z49_0, z49_1⟩ := ca2 BK252
                   obtain ⟨f49_0, f49_1⟩ := fa2 BK252
                   have p268 : 0 ≤ (x11_3 : Int) := of_decide_eq_true as_
                   have q268 : x11_3 < (l0_1.length : Int) := of_decide_eq_true as_
                   obtain ⟨ad268, A268_1, c268_1, A268_2, c268_2, e268, hx268_0, hx268_1, hx268_2, hx268_3, hx268_4, hx268_5, hx268_6, hx268_7, hl268_1, hi268_1, hl268_2, hi268_2⟩ := at_T49 HR0_1.out x11_3 p268 q268
                   cases e268
                   replace hx268_0 := cl HB hx268_0
                   replace hx268_1 := cl HB hx268_1
                   replace hx268_2 := cl HB hx268_2
                   replace hx268_3 := cl HB hx268_3
                   replace hx268_4 := cl HB hx268_4
                   replace hx268_5 := cl HB hx268_5
                   replace hx268_6 := cl HB hx268_6
                   replace hx268_7 := cl HB hx268_7
                   have HR268_1 := Aside0.mk hi268_1
                   have HC268_1 := Aside0.mk hl268_1
                   clear hi268_1 hl268_1
                   have HR268_2 := Aside0.mk hi268_2
                   have HC268_2 := Aside0.mk hl268_2
                   clear hi268_2 hl268_2
                   replace p268 := eq_true p268
                   replace q268 := eq_true q268
                   have p269 : 0 ≤ (x11_3 : Int) := of_decide_eq_true as_
                   have q269 : x11_3 < (l0_1.length : Int) := of_decide_eq_true as_
                   obtain ⟨ad269, A269_1, c269_1, A269_2, c269_2, e269, hx269_0, hx269_1, hx269_2, hx269_3, hx269_4, hx269_5, hx269_6, hx269_7, hl269_1, hi269_1, hl269_2, hi269_2⟩ := at_T49 HR0_1.out x11_3 p269 q269
                   obtain rfl : ad268 = ad269 := (by injection e269)
                   replace hx269_0 := cl HB hx269_0
                   replace hx269_1 := cl HB hx269_1
                   replace hx269_2 := cl HB hx269_2
                   replace hx269_3 := cl HB hx269_3
                   replace hx269_4 := cl HB hx269_4
                   replace hx269_5 := cl HB hx269_5
                   replace hx269_6 := cl HB hx269_6
                   replace hx269_7 := cl HB hx269_7
                   have HR269_1 := Aside0.mk hi269_1
                   have HC269_1 := Aside0.mk hl269_1
                   clear hi269_1 hl269_1
                   have HR269_2 := Aside0.mk hi269_2
                   have HC269_2 := Aside0.mk hl269_2
                   clear hi269_2 hl269_2
                   replace p269 := eq_true p269
                   replace q269 := eq_true q269
                   have ea_ := Option.some.inj (hx268_1.symm.trans hx269_1)
                   injection ea_ with ea_ en_ ec_
                   subst ea_
                   subst ec_
                   clear en_
                   have ea_ := Option.some.inj (hx268_2.symm.trans hx269_2)
                   injection ea_ with ea_ en_ ec_
                   subst ea_
                   subst ec_
                   clear en_
                   obtain ⟨Ao50, co50, eo50⟩ := Kd.R_slice HO_5.out
                   subst eo50
                   have p270 : 0 ≤ ((ji44) : Int) := of_decide_eq_true as_
                   have q270 : (ji44) < (x5_4.length : Int) := of_decide_eq_true as_
                   obtain ⟨ad270, e270, hx270_0⟩ := Kd.at_int (Kd.R_reads' HO_5.out).2.2 (ji44) p270 q270
                   cases e270
                   replace p270 := eq_true p270
                   replace q270 := eq_true q270
                   have p48 : 0 ≤ ((ji44) : Int) := of_decide_eq_true as_
                   have q48 : ((ji44) : Int) < ((x5_4.length : Int) : Int) := of_decide_eq_true as_
                   obtain ⟨go48, co48, eo48, gb48, gl48, cl48, HG48⟩ := Kd.R_form HO_5.out (by omega)
                   (first | cases eo48 | (injection eo48 with ea_ en_ ec_; (first | subst ea_ | (injection ea_ with ea_; subst ea_)); subst ec_; clear en_))
                   have GB48 := Aside0.mk gb48
                   have GG48 := Aside0.mk HG48
                   clear gb48 gl48 HG48
                   (first | simp only [add_plain] at hx270_0 | skip)
                   obtain ⟨hx48_0, hf48_0⟩ := Kd.R_celln 0 HO_5.out ((ji44) : Int) p48 q48
                   replace p48 := eq_true p48
                   replace q48 := eq_true q48
                   have HP51 := Kd.R_putg HO_5.out ((ji44) : Int) x11_3
                   go_wp2_with (first | ((with_reducible refine gate_store (t := 3) (p := 110) rfl ?_); refine store_event (t := 3) (p := 110) (v := ?vo_w52) (w1 := (wr.setCell ⟨go48, ((ji44) : Int).toNat, none⟩ (.int .i64 x11_3))) ?hg ?ho ?hn ?hr ?_; (case ho => rfl); (case hg => rfl); (case hn => rfl); (case hr => first | (go_simp; done) | (go_simp; rfl)); intro w52 hw; have hg : wr.grownBy w52 (some go48) := (by rw [hw]; exact HP51.2); have hp_ : Kd.R (Kd.int .i64) 3 w52 w.heap.size (fun _ => True) (.slice (some ⟨go48, 0, none⟩) x5_4.length co50) y271 := (by rw [hw, Ny271.out]; exact HP51.1); clear HP51; replace BK252 := bg BK252 hg (Kd.R_ne HO_5.out BK252.out (by decide)); replace HO_5 := Aside0.mk (hp_); replace HB := Aside0.mk ((by rw [hw]; exact below_set (HB.out) GB48.out : Below w.heap.size w w52)); clear hg hw hp_))
                   go_roundg k4
                   case measure => have := HK1.out; have := HK2.out; have := HK3.out; have := HK4.out; omega
                   case rel => exact ⟨(y271), (wrap64 (x12_4 + 1)), ev, H', ⟨by have := HK1.out; have := HK2.out; have := HK3.out; have := HK4.out; omega⟩, ⟨ro HO_5⟩, ⟨bk BK252⟩, ⟨bw⟩⟩
                  ·simp only [Option.some.injEq, Prod.mk.injEq] at H
                   obtain ⟨rfl, rfl⟩ := H
                   obtain ⟨z53_0, z53_1⟩ := ca2 BK252
                   obtain ⟨f53_0, f53_1⟩ := fa2 BK252
                   have p268 : 0 ≤ (x11_3 : Int) := of_decide_eq_true as_
                   have q268 : x11_3 < (l0_1.length : Int) := of_decide_eq_true as_
                   obtain ⟨ad268, A268_1, c268_1, A268_2, c268_2, e268, hx268_0, hx268_1, hx268_2, hx268_3, hx268_4, hx268_5, hx268_6, hx268_7, hl268_1, hi268_1, hl268_2, hi268_2⟩ := at_T49 HR0_1.out x11_3 p268 q268
                   cases e268
                   replace hx268_0 := cl HB hx268_0
                   replace hx268_1 := cl HB hx268_1
                   replace hx268_2 := cl HB hx268_2
                   replace hx268_3 := cl HB hx268_3
                   replace hx268_4 := cl HB hx268_4
                   replace hx268_5 := cl HB hx268_5
                   replace hx268_6 := cl HB hx268_6
                   replace hx268_7 := cl HB hx268_7
                   have HR268_1 := Aside0.mk hi268_1
                   have HC268_1 := Aside0.mk hl268_1
                   clear hi268_1 hl268_1
                   have HR268_2 := Aside0.mk hi268_2
                   have HC268_2 := Aside0.mk hl268_2
                   clear hi268_2 hl268_2
                   replace p268 := eq_true p268
                   replace q268 := eq_true q268
                   have p269 : 0 ≤ (x11_3 : Int) := of_decide_eq_true as_
                   have q269 : x11_3 < (l0_1.length : Int) := of_decide_eq_true as_
                   obtain ⟨ad269, A269_1, c269_1, A269_2, c269_2, e269, hx269_0, hx269_1, hx269_2, hx269_3, hx269_4, hx269_5, hx269_6, hx269_7, hl269_1, hi269_1, hl269_2, hi269_2⟩ := at_T49 HR0_1.out x11_3 p269 q269
                   obtain rfl : ad268 = ad269 := (by injection e269)
                   replace hx269_0 := cl HB hx269_0
                   replace hx269_1 := cl HB hx269_1
                   replace hx269_2 := cl HB hx269_2
                   replace hx269_3 := cl HB hx269_3
                   replace hx269_4 := cl HB hx269_4
                   replace hx269_5 := cl HB hx269_5
                   replace hx269_6 := cl HB hx269_6
                   replace hx269_7 := cl HB hx269_7
                   have HR269_1 := Aside0.mk hi269_1
                   have HC269_1 := Aside0.mk hl269_1
                   clear hi269_1 hl269_1
                   have HR269_2 := Aside0.mk hi269_2
                   have HC269_2 := Aside0.mk hl269_2
                   clear hi269_2 hl269_2
                   replace p269 := eq_true p269
                   replace q269 := eq_true q269
                   have ea_ := Option.some.inj (hx268_1.symm.trans hx269_1)
                   injection ea_ with ea_ en_ ec_
                   subst ea_
                   subst ec_
                   clear en_
                   have ea_ := Option.some.inj (hx268_2.symm.trans hx269_2)
                   injection ea_ with ea_ en_ ec_
                   subst ea_
                   subst ec_
                   clear en_
                   obtain ⟨Ao54, co54, eo54⟩ := Kd.R_slice HO_5.out
                   subst eo54
                   have p270 : 0 ≤ ((ji44) : Int) := of_decide_eq_true as_
                   have q270 : (ji44) < (x5_4.length : Int) := of_decide_eq_true as_
                   obtain ⟨ad270, e270, hx270_0⟩ := Kd.at_int (Kd.R_reads' HO_5.out).2.2 (ji44) p270 q270
                   cases e270
                   replace p270 := eq_true p270
                   replace q270 := eq_true q270
                   go_wp2
                   go_ret2
                   exact ⟨_, by first | exact rt1 | (simp only [← hji44]; exact rt1) | exact rt, by first | exact Kd.R_nil _ _ _ _ _ | exact Kd.N_nil _ _ _ _ _ | exact Kd.V_nil _ _ _ _ _ | exact Kd.Q_nil _ _ _ _ _ | exact Kd.S_nil _ _ _ _ _, bw⟩
                 ·rw [if_neg c46] at H
                  exact absurd H (by simp)
                ·rw [if_neg c45] at H
                 exact absurd H (by simp)
              ·have H' := Aside0.mk H
               clear H
               obtain ⟨z55_0, z55_1⟩ := ca2 BK252
               obtain ⟨f55_0, f55_1⟩ := fa2 BK252
               have p268 : 0 ≤ (x11_3 : Int) := of_decide_eq_true as_
               have q268 : x11_3 < (l0_1.length : Int) := of_decide_eq_true as_
               obtain ⟨ad268, A268_1, c268_1, A268_2, c268_2, e268, hx268_0, hx268_1, hx268_2, hx268_3, hx268_4, hx268_5, hx268_6, hx268_7, hl268_1, hi268_1, hl268_2, hi268_2⟩ := at_T49 HR0_1.out x11_3 p268 q268
               cases e268
               replace hx268_0 := cl HB hx268_0
               replace hx268_1 := cl HB hx268_1
               replace hx268_2 := cl HB hx268_2
               replace hx268_3 := cl HB hx268_3
               replace hx268_4 := cl HB hx268_4
               replace hx268_5 := cl HB hx268_5
               replace hx268_6 := cl HB hx268_6
               replace hx268_7 := cl HB hx268_7
               have HR268_1 := Aside0.mk hi268_1
               have HC268_1 := Aside0.mk hl268_1
               clear hi268_1 hl268_1
               have HR268_2 := Aside0.mk hi268_2
               have HC268_2 := Aside0.mk hl268_2
               clear hi268_2 hl268_2
               replace p268 := eq_true p268
               replace q268 := eq_true q268
               go_wp2
               go_roundg k4
               case measure => have := HK1.out; have := HK2.out; have := HK3.out; have := HK4.out; omega
               case rel => exact ⟨(x5_4), (wrap64 (x11_3 + 1)), ev, H', ⟨by have := HK1.out; have := HK2.out; have := HK3.out; have := HK4.out; omega⟩, ⟨ro HO_5⟩, ⟨bk BK252⟩, ⟨bw⟩⟩
             ·rw [if_neg c40] at H
              exact absurd H (by simp)
            ·rw [if_neg c39] at H
             exact absurd H (by simp)
         ·have H' := Aside0.mk H
          clear H
          obtain ⟨z56_0, z56_1⟩ := ca2 BK252
          obtain ⟨f56_0, f56_1⟩ := fa2 BK252
          go_wp2
          go_loopg [14] k3 (fun kq v14 w' => ∃ (x14_4 : Int), v14 = .int .i64 x14_4 ∧ Aside0 (spec_l08Owners.l5 kq (l0_0.length : Int) x5_3 x14_4 l0_0 l0_1 = some (r1, r2)) ∧ Aside0 (kq ≤ k3) ∧ Aside0 (Kd.R (Kd.int .i64) 3 w' w.heap.size (fun _ => True) u5 x5_3) ∧ Aside0 (w'.heap[gb252]? = some (.cells #[(.slice A0_0 l0_0.length c0_0), (.slice A0_1 l0_1.length c0_1)] 37 (0, 0))) ∧ Aside0 (Below w.heap.size w w'))
          case atStart => exact ⟨(0), ev, H', ⟨Nat.le_refl _⟩, ⟨ro HO_5⟩, ⟨bk BK252⟩, ⟨bw⟩⟩
          case round =>
           clear H'
           try clear c6
           try clear c6b0
           try clear c9
           try clear c9b0
           try clear c37
           try clear c37b0
           (try clear z3_0 z3_1)
           (try clear z56_0 z56_1)
           (try clear f3_0 f3_1)
           (try clear f56_0 f56_1)
           obtain ⟨x14_4, rfl, HA, HK4, HO_5, BK252, HB⟩ := hrel
           cases gk with
           | zero => exact absurd HA.out (by simp [spec_l08Owners.l5])
           | succ k4 =>
            have H := HA.out
            clear HA
            simp only [spec_l08Owners.l5] at H
            replace H := ilt H
            rcases H with ⟨c57b0, H⟩ | ⟨c57b0, H⟩
            ·by_cases c58 : 0 ≤ x14_4
             ·rw [if_pos c58] at H
              have c58b0 : decide (0 ≤ x14_4) = true := decide_eq_true c58
              clear c58
              by_cases c59 : x14_4 < (l0_0.length : Int)
              ·rw [if_pos c59] at H
               have c59b0 : decide (x14_4 < (l0_0.length : Int)) = true := decide_eq_true c59
               clear c59
               replace H := bn H
               obtain ⟨⟨t273, t274, t275, t276, t277⟩, A60, H⟩ := H
               try dsimp only at H
               by_cases c61 : x14_4 < (x5_3.length : Int)
               ·rw [if_pos c61] at H
                have c61b0 : decide (x14_4 < (x5_3.length : Int)) = true := decide_eq_true c61
                clear c61
                replace H := ieq H
                rcases H with ⟨c62b0, c62b1, H⟩ | ⟨c62, c62b0, c62b1, H⟩
                ·replace H := ieq H
                 rcases H with ⟨c63b0, c63b1, H⟩ | ⟨c63, c63b0, c63b1, H⟩
                 ·simp only [Option.some.injEq, Prod.mk.injEq] at H
                  obtain ⟨rfl, rfl⟩ := H
                  obtain ⟨z64_0, z64_1⟩ := ca2 BK252
                  obtain ⟨f64_0, f64_1⟩ := fa2 BK252
                  have p272 : 0 ≤ (x14_4 : Int) := of_decide_eq_true as_
                  have q272 : x14_4 < (l0_0.length : Int) := of_decide_eq_true as_
                  obtain ⟨ad272, e272, hx272_0⟩ := Kd.at_int HR0_0.out x14_4 p272 q272
                  cases e272
                  replace hx272_0 := cl HB hx272_0
                  replace p272 := eq_true p272
                  replace q272 := eq_true q272
                  go_wp2_with (first | ((with_reducible refine gf 36 ?_); refine gc Tryz.func36 (some 123) (spec_CtlRead.calls _ _ _ _ _ _ _ _ A60.out) ?_; rintro e w65 ⟨rfl, hb⟩; refine ⟨_, rfl, ?_⟩; replace HO_5 := Aside0.mk (Kd.R_below (ro HO_5) hb); replace BK252 := b_ BK252 hb; replace HB := hs hb; try clear hb) | ((with_reducible refine gd 15 ?_); refine bx 15 75 #[.int .i64 0, .int .i64 0, .int .u32 0, .int .i64 0] ?_; clear HB; intro gb278 w66 hg BK278 hb GE278 HB; replace HO_5 := Aside0.mk (Kd.R_below (ro HO_5) hb); have NB252_278 := nl BK252 hg; have NB278_252 := ng BK252 hg; replace BK252 := b_ BK252 hb; clear hb hg; have hnb67 := NB278_252.out; have hnc67 := NB252_278.out; obtain ⟨z68_0, z68_1, z68_2, z68_3⟩ := ca4 BK278; obtain ⟨f68_0, f68_1, f68_2, f68_3⟩ := fa4 BK278; obtain ⟨Ao69, co69, eo69⟩ := Kd.R_slice HO_5.out; subst eo69; have p279 : 0 ≤ (x14_4 : Int) := of_decide_eq_true as_; have q279 : x14_4 < (x5_3.length : Int) := of_decide_eq_true as_; obtain ⟨ad279, e279, hx279_0⟩ := Kd.at_int (Kd.R_reads' HO_5.out).2.2 x14_4 p279 q279; cases e279; have hn279_0 : ad279.block ≠ gb278 := Kd.own_blk (Kd.R_ne HO_5.out BK278.out (by decide)); have hn279_1 : ad279.block ≠ gb278 := Kd.own_blk (Kd.R_ne HO_5.out BK278.out (by decide)); have hn279_2 : ad279.block ≠ gb278 := Kd.own_blk (Kd.R_ne HO_5.out BK278.out (by decide)); have hn279_3 : ad279.block ≠ gb278 := Kd.own_blk (Kd.R_ne HO_5.out BK278.out (by decide)); replace hx279_0 := (cell_far (p := ⟨gb278, 0, none⟩) (ab hn279_0) (.int .i64 t273)).trans hx279_0; replace hx279_0 := (cell_far (p := ⟨gb278, 1, none⟩) (ab hn279_1) (.int .i64 t274)).trans hx279_0; replace hx279_0 := (cell_far (p := ⟨gb278, 2, none⟩) (ab hn279_2) (.int .u32 t275)).trans hx279_0; replace hx279_0 := (cell_far (p := ⟨gb278, 3, none⟩) (ab hn279_3) (.int .i64 t276)).trans hx279_0; clear hn279_0; clear hn279_1; clear hn279_2; clear hn279_3; replace p279 := eq_true p279; replace q279 := eq_true q279))
                  go_ret2
                  exact ⟨_, rt, by first | exact Kd.R_nil _ _ _ _ _ | exact Kd.N_nil _ _ _ _ _ | exact Kd.V_nil _ _ _ _ _ | exact Kd.Q_nil _ _ _ _ _ | exact Kd.S_nil _ _ _ _ _, bw⟩
                 ·replace H := ieq H
                  rcases H with ⟨c70b0, c70b1, H⟩ | ⟨c70, c70b0, c70b1, H⟩
                  ·simp only [Option.some.injEq, Prod.mk.injEq] at H
                   obtain ⟨rfl, rfl⟩ := H
                   obtain ⟨z71_0, z71_1⟩ := ca2 BK252
                   obtain ⟨f71_0, f71_1⟩ := fa2 BK252
                   have p272 : 0 ≤ (x14_4 : Int) := of_decide_eq_true as_
                   have q272 : x14_4 < (l0_0.length : Int) := of_decide_eq_true as_
                   obtain ⟨ad272, e272, hx272_0⟩ := Kd.at_int HR0_0.out x14_4 p272 q272
                   cases e272
                   replace hx272_0 := cl HB hx272_0
                   replace p272 := eq_true p272
                   replace q272 := eq_true q272
                   go_wp2_with (first | ((with_reducible refine gf 36 ?_); refine gc Tryz.func36 (some 123) (spec_CtlRead.calls _ _ _ _ _ _ _ _ A60.out) ?_; rintro e w72 ⟨rfl, hb⟩; refine ⟨_, rfl, ?_⟩; replace HO_5 := Aside0.mk (Kd.R_below (ro HO_5) hb); replace BK252 := b_ BK252 hb; replace HB := hs hb; try clear hb) | ((with_reducible refine gd 15 ?_); refine bx 15 75 #[.int .i64 0, .int .i64 0, .int .u32 0, .int .i64 0] ?_; clear HB; intro gb278 w73 hg BK278 hb GE278 HB; replace HO_5 := Aside0.mk (Kd.R_below (ro HO_5) hb); have NB252_278 := nl BK252 hg; have NB278_252 := ng BK252 hg; replace BK252 := b_ BK252 hb; clear hb hg; have hnb74 := NB278_252.out; have hnc74 := NB252_278.out; obtain ⟨z75_0, z75_1, z75_2, z75_3⟩ := ca4 BK278; obtain ⟨f75_0, f75_1, f75_2, f75_3⟩ := fa4 BK278; obtain ⟨Ao76, co76, eo76⟩ := Kd.R_slice HO_5.out; subst eo76; have p279 : 0 ≤ (x14_4 : Int) := of_decide_eq_true as_; have q279 : x14_4 < (x5_3.length : Int) := of_decide_eq_true as_; obtain ⟨ad279, e279, hx279_0⟩ := Kd.at_int (Kd.R_reads' HO_5.out).2.2 x14_4 p279 q279; cases e279; have hn279_0 : ad279.block ≠ gb278 := Kd.own_blk (Kd.R_ne HO_5.out BK278.out (by decide)); have hn279_1 : ad279.block ≠ gb278 := Kd.own_blk (Kd.R_ne HO_5.out BK278.out (by decide)); have hn279_2 : ad279.block ≠ gb278 := Kd.own_blk (Kd.R_ne HO_5.out BK278.out (by decide)); have hn279_3 : ad279.block ≠ gb278 := Kd.own_blk (Kd.R_ne HO_5.out BK278.out (by decide)); replace hx279_0 := (cell_far (p := ⟨gb278, 0, none⟩) (ab hn279_0) (.int .i64 t273)).trans hx279_0; replace hx279_0 := (cell_far (p := ⟨gb278, 1, none⟩) (ab hn279_1) (.int .i64 t274)).trans hx279_0; replace hx279_0 := (cell_far (p := ⟨gb278, 2, none⟩) (ab hn279_2) (.int .u32 t275)).trans hx279_0; replace hx279_0 := (cell_far (p := ⟨gb278, 3, none⟩) (ab hn279_3) (.int .i64 t276)).trans hx279_0; clear hn279_0; clear hn279_1; clear hn279_2; clear hn279_3; replace p279 := eq_true p279; replace q279 := eq_true q279))
                   go_ret2
                   exact ⟨_, rt, by first | exact Kd.R_nil _ _ _ _ _ | exact Kd.N_nil _ _ _ _ _ | exact Kd.V_nil _ _ _ _ _ | exact Kd.Q_nil _ _ _ _ _ | exact Kd.S_nil _ _ _ _ _, bw⟩
                  ·replace H := ige H
                   rcases H with ⟨c77b0, H⟩ | ⟨c77b0, H⟩
                   ·simp only [Option.some.injEq, Prod.mk.injEq] at H
                    obtain ⟨rfl, rfl⟩ := H
                    obtain ⟨z78_0, z78_1⟩ := ca2 BK252
                    obtain ⟨f78_0, f78_1⟩ := fa2 BK252
                    have p272 : 0 ≤ (x14_4 : Int) := of_decide_eq_true as_
                    have q272 : x14_4 < (l0_0.length : Int) := of_decide_eq_true as_
                    obtain ⟨ad272, e272, hx272_0⟩ := Kd.at_int HR0_0.out x14_4 p272 q272
                    cases e272
                    replace hx272_0 := cl HB hx272_0
                    replace p272 := eq_true p272
                    replace q272 := eq_true q272
                    go_wp2_with (first | ((with_reducible refine gf 36 ?_); refine gc Tryz.func36 (some 123) (spec_CtlRead.calls _ _ _ _ _ _ _ _ A60.out) ?_; rintro e w79 ⟨rfl, hb⟩; refine ⟨_, rfl, ?_⟩; replace HO_5 := Aside0.mk (Kd.R_below (ro HO_5) hb); replace BK252 := b_ BK252 hb; replace HB := hs hb; try clear hb) | ((with_reducible refine gd 15 ?_); refine bx 15 75 #[.int .i64 0, .int .i64 0, .int .u32 0, .int .i64 0] ?_; clear HB; intro gb278 w80 hg BK278 hb GE278 HB; replace HO_5 := Aside0.mk (Kd.R_below (ro HO_5) hb); have NB252_278 := nl BK252 hg; have NB278_252 := ng BK252 hg; replace BK252 := b_ BK252 hb; clear hb hg; have hnb81 := NB278_252.out; have hnc81 := NB252_278.out; obtain ⟨z82_0, z82_1, z82_2, z82_3⟩ := ca4 BK278; obtain ⟨f82_0, f82_1, f82_2, f82_3⟩ := fa4 BK278; obtain ⟨Ao83, co83, eo83⟩ := Kd.R_slice HO_5.out; subst eo83; have p279 : 0 ≤ (x14_4 : Int) := of_decide_eq_true as_; have q279 : x14_4 < (x5_3.length : Int) := of_decide_eq_true as_; obtain ⟨ad279, e279, hx279_0⟩ := Kd.at_int (Kd.R_reads' HO_5.out).2.2 x14_4 p279 q279; cases e279; have hn279_0 : ad279.block ≠ gb278 := Kd.own_blk (Kd.R_ne HO_5.out BK278.out (by decide)); have hn279_1 : ad279.block ≠ gb278 := Kd.own_blk (Kd.R_ne HO_5.out BK278.out (by decide)); have hn279_2 : ad279.block ≠ gb278 := Kd.own_blk (Kd.R_ne HO_5.out BK278.out (by decide)); have hn279_3 : ad279.block ≠ gb278 := Kd.own_blk (Kd.R_ne HO_5.out BK278.out (by decide)); replace hx279_0 := (cell_far (p := ⟨gb278, 0, none⟩) (ab hn279_0) (.int .i64 t273)).trans hx279_0; replace hx279_0 := (cell_far (p := ⟨gb278, 1, none⟩) (ab hn279_1) (.int .i64 t274)).trans hx279_0; replace hx279_0 := (cell_far (p := ⟨gb278, 2, none⟩) (ab hn279_2) (.int .u32 t275)).trans hx279_0; replace hx279_0 := (cell_far (p := ⟨gb278, 3, none⟩) (ab hn279_3) (.int .i64 t276)).trans hx279_0; clear hn279_0; clear hn279_1; clear hn279_2; clear hn279_3; replace p279 := eq_true p279; replace q279 := eq_true q279; have p280 : 0 ≤ (x14_4 : Int) := of_decide_eq_true as_; have q280 : x14_4 < (x5_3.length : Int) := of_decide_eq_true as_; obtain ⟨ad280, e280, hx280_0⟩ := Kd.at_int (Kd.R_reads' HO_5.out).2.2 x14_4 p280 q280; obtain rfl : ad279 = ad280 := (by injection e280); have hn280_0 : ad279.block ≠ gb278 := Kd.own_blk (Kd.R_ne HO_5.out BK278.out (by decide)); have hn280_1 : ad279.block ≠ gb278 := Kd.own_blk (Kd.R_ne HO_5.out BK278.out (by decide)); have hn280_2 : ad279.block ≠ gb278 := Kd.own_blk (Kd.R_ne HO_5.out BK278.out (by decide)); have hn280_3 : ad279.block ≠ gb278 := Kd.own_blk (Kd.R_ne HO_5.out BK278.out (by decide)); replace hx280_0 := (cell_far (p := ⟨gb278, 0, none⟩) (ab hn280_0) (.int .i64 t273)).trans hx280_0; replace hx280_0 := (cell_far (p := ⟨gb278, 1, none⟩) (ab hn280_1) (.int .i64 t274)).trans hx280_0; replace hx280_0 := (cell_far (p := ⟨gb278, 2, none⟩) (ab hn280_2) (.int .u32 t275)).trans hx280_0; replace hx280_0 := (cell_far (p := ⟨gb278, 3, none⟩) (ab hn280_3) (.int .i64 t276)).trans hx280_0; clear hn280_0; clear hn280_1; clear hn280_2; clear hn280_3; replace p280 := eq_true p280; replace q280 := eq_true q280))
                    go_ret2
                    exact ⟨_, rt, by first | exact Kd.R_nil _ _ _ _ _ | exact Kd.N_nil _ _ _ _ _ | exact Kd.V_nil _ _ _ _ _ | exact Kd.Q_nil _ _ _ _ _ | exact Kd.S_nil _ _ _ _ _, bw⟩
                   ·replace H := ieq H
                    rcases H with ⟨c84b0, c84b1, H⟩ | ⟨c84, c84b0, c84b1, H⟩
                    ·simp only [Option.some.injEq, Prod.mk.injEq] at H
                     obtain ⟨rfl, rfl⟩ := H
                     obtain ⟨z85_0, z85_1⟩ := ca2 BK252
                     obtain ⟨f85_0, f85_1⟩ := fa2 BK252
                     have p272 : 0 ≤ (x14_4 : Int) := of_decide_eq_true as_
                     have q272 : x14_4 < (l0_0.length : Int) := of_decide_eq_true as_
                     obtain ⟨ad272, e272, hx272_0⟩ := Kd.at_int HR0_0.out x14_4 p272 q272
                     cases e272
                     replace hx272_0 := cl HB hx272_0
                     replace p272 := eq_true p272
                     replace q272 := eq_true q272
                     go_wp2_with (first | ((with_reducible refine gf 36 ?_); refine gc Tryz.func36 (some 123) (spec_CtlRead.calls _ _ _ _ _ _ _ _ A60.out) ?_; rintro e w86 ⟨rfl, hb⟩; refine ⟨_, rfl, ?_⟩; replace HO_5 := Aside0.mk (Kd.R_below (ro HO_5) hb); replace BK252 := b_ BK252 hb; replace HB := hs hb; try clear hb) | ((with_reducible refine gd 15 ?_); refine bx 15 75 #[.int .i64 0, .int .i64 0, .int .u32 0, .int .i64 0] ?_; clear HB; intro gb278 w87 hg BK278 hb GE278 HB; replace HO_5 := Aside0.mk (Kd.R_below (ro HO_5) hb); have NB252_278 := nl BK252 hg; have NB278_252 := ng BK252 hg; replace BK252 := b_ BK252 hb; clear hb hg; have hnb88 := NB278_252.out; have hnc88 := NB252_278.out; obtain ⟨z89_0, z89_1, z89_2, z89_3⟩ := ca4 BK278; obtain ⟨f89_0, f89_1, f89_2, f89_3⟩ := fa4 BK278; obtain ⟨Ao90, co90, eo90⟩ := Kd.R_slice HO_5.out; subst eo90; have p279 : 0 ≤ (x14_4 : Int) := of_decide_eq_true as_; have q279 : x14_4 < (x5_3.length : Int) := of_decide_eq_true as_; obtain ⟨ad279, e279, hx279_0⟩ := Kd.at_int (Kd.R_reads' HO_5.out).2.2 x14_4 p279 q279; cases e279; have hn279_0 : ad279.block ≠ gb278 := Kd.own_blk (Kd.R_ne HO_5.out BK278.out (by decide)); have hn279_1 : ad279.block ≠ gb278 := Kd.own_blk (Kd.R_ne HO_5.out BK278.out (by decide)); have hn279_2 : ad279.block ≠ gb278 := Kd.own_blk (Kd.R_ne HO_5.out BK278.out (by decide)); have hn279_3 : ad279.block ≠ gb278 := Kd.own_blk (Kd.R_ne HO_5.out BK278.out (by decide)); replace hx279_0 := (cell_far (p := ⟨gb278, 0, none⟩) (ab hn279_0) (.int .i64 t273)).trans hx279_0; replace hx279_0 := (cell_far (p := ⟨gb278, 1, none⟩) (ab hn279_1) (.int .i64 t274)).trans hx279_0; replace hx279_0 := (cell_far (p := ⟨gb278, 2, none⟩) (ab hn279_2) (.int .u32 t275)).trans hx279_0; replace hx279_0 := (cell_far (p := ⟨gb278, 3, none⟩) (ab hn279_3) (.int .i64 t276)).trans hx279_0; clear hn279_0; clear hn279_1; clear hn279_2; clear hn279_3; replace p279 := eq_true p279; replace q279 := eq_true q279; have p280 : 0 ≤ (x14_4 : Int) := of_decide_eq_true as_; have q280 : x14_4 < (x5_3.length : Int) := of_decide_eq_true as_; obtain ⟨ad280, e280, hx280_0⟩ := Kd.at_int (Kd.R_reads' HO_5.out).2.2 x14_4 p280 q280; obtain rfl : ad279 = ad280 := (by injection e280); have hn280_0 : ad279.block ≠ gb278 := Kd.own_blk (Kd.R_ne HO_5.out BK278.out (by decide)); have hn280_1 : ad279.block ≠ gb278 := Kd.own_blk (Kd.R_ne HO_5.out BK278.out (by decide)); have hn280_2 : ad279.block ≠ gb278 := Kd.own_blk (Kd.R_ne HO_5.out BK278.out (by decide)); have hn280_3 : ad279.block ≠ gb278 := Kd.own_blk (Kd.R_ne HO_5.out BK278.out (by decide)); replace hx280_0 := (cell_far (p := ⟨gb278, 0, none⟩) (ab hn280_0) (.int .i64 t273)).trans hx280_0; replace hx280_0 := (cell_far (p := ⟨gb278, 1, none⟩) (ab hn280_1) (.int .i64 t274)).trans hx280_0; replace hx280_0 := (cell_far (p := ⟨gb278, 2, none⟩) (ab hn280_2) (.int .u32 t275)).trans hx280_0; replace hx280_0 := (cell_far (p := ⟨gb278, 3, none⟩) (ab hn280_3) (.int .i64 t276)).trans hx280_0; clear hn280_0; clear hn280_1; clear hn280_2; clear hn280_3; replace p280 := eq_true p280; replace q280 := eq_true q280; have p281 : 0 ≤ (x14_4 : Int) := of_decide_eq_true as_; have q281 : x14_4 < (x5_3.length : Int) := of_decide_eq_true as_; obtain ⟨ad281, e281, hx281_0⟩ := Kd.at_int (Kd.R_reads' HO_5.out).2.2 x14_4 p281 q281; obtain rfl : ad279 = ad281 := (by injection e281); have hn281_0 : ad279.block ≠ gb278 := Kd.own_blk (Kd.R_ne HO_5.out BK278.out (by decide)); have hn281_1 : ad279.block ≠ gb278 := Kd.own_blk (Kd.R_ne HO_5.out BK278.out (by decide)); have hn281_2 : ad279.block ≠ gb278 := Kd.own_blk (Kd.R_ne HO_5.out BK278.out (by decide)); have hn281_3 : ad279.block ≠ gb278 := Kd.own_blk (Kd.R_ne HO_5.out BK278.out (by decide)); replace hx281_0 := (cell_far (p := ⟨gb278, 0, none⟩) (ab hn281_0) (.int .i64 t273)).trans hx281_0; replace hx281_0 := (cell_far (p := ⟨gb278, 1, none⟩) (ab hn281_1) (.int .i64 t274)).trans hx281_0; replace hx281_0 := (cell_far (p := ⟨gb278, 2, none⟩) (ab hn281_2) (.int .u32 t275)).trans hx281_0; replace hx281_0 := (cell_far (p := ⟨gb278, 3, none⟩) (ab hn281_3) (.int .i64 t276)).trans hx281_0; clear hn281_0; clear hn281_1; clear hn281_2; clear hn281_3; replace p281 := eq_true p281; replace q281 := eq_true q281))
                     go_ret2
                     exact ⟨_, rt, by first | exact Kd.R_nil _ _ _ _ _ | exact Kd.N_nil _ _ _ _ _ | exact Kd.V_nil _ _ _ _ _ | exact Kd.Q_nil _ _ _ _ _ | exact Kd.S_nil _ _ _ _ _, bw⟩
                    ·have H' := Aside0.mk H
                     clear H
                     obtain ⟨z91_0, z91_1⟩ := ca2 BK252
                     obtain ⟨f91_0, f91_1⟩ := fa2 BK252
                     have p272 : 0 ≤ (x14_4 : Int) := of_decide_eq_true as_
                     have q272 : x14_4 < (l0_0.length : Int) := of_decide_eq_true as_
                     obtain ⟨ad272, e272, hx272_0⟩ := Kd.at_int HR0_0.out x14_4 p272 q272
                     cases e272
                     replace hx272_0 := cl HB hx272_0
                     replace p272 := eq_true p272
                     replace q272 := eq_true q272
                     go_wp2_with (first | ((with_reducible refine gf 36 ?_); refine gc Tryz.func36 (some 123) (spec_CtlRead.calls _ _ _ _ _ _ _ _ A60.out) ?_; rintro e w92 ⟨rfl, hb⟩; refine ⟨_, rfl, ?_⟩; replace HO_5 := Aside0.mk (Kd.R_below (ro HO_5) hb); replace BK252 := b_ BK252 hb; replace HB := hs hb; try clear hb) | ((with_reducible refine gd 15 ?_); refine bx 15 75 #[.int .i64 0, .int .i64 0, .int .u32 0, .int .i64 0] ?_; clear HB; intro gb278 w93 hg BK278 hb GE278 HB; replace HO_5 := Aside0.mk (Kd.R_below (ro HO_5) hb); have NB252_278 := nl BK252 hg; have NB278_252 := ng BK252 hg; replace BK252 := b_ BK252 hb; clear hb hg; have hnb94 := NB278_252.out; have hnc94 := NB252_278.out; obtain ⟨z95_0, z95_1, z95_2, z95_3⟩ := ca4 BK278; obtain ⟨f95_0, f95_1, f95_2, f95_3⟩ := fa4 BK278; obtain ⟨Ao96, co96, eo96⟩ := Kd.R_slice HO_5.out; subst eo96; have p279 : 0 ≤ (x14_4 : Int) := of_decide_eq_true as_; have q279 : x14_4 < (x5_3.length : Int) := of_decide_eq_true as_; obtain ⟨ad279, e279, hx279_0⟩ := Kd.at_int (Kd.R_reads' HO_5.out).2.2 x14_4 p279 q279; cases e279; have hn279_0 : ad279.block ≠ gb278 := Kd.own_blk (Kd.R_ne HO_5.out BK278.out (by decide)); have hn279_1 : ad279.block ≠ gb278 := Kd.own_blk (Kd.R_ne HO_5.out BK278.out (by decide)); have hn279_2 : ad279.block ≠ gb278 := Kd.own_blk (Kd.R_ne HO_5.out BK278.out (by decide)); have hn279_3 : ad279.block ≠ gb278 := Kd.own_blk (Kd.R_ne HO_5.out BK278.out (by decide)); replace hx279_0 := (cell_far (p := ⟨gb278, 0, none⟩) (ab hn279_0) (.int .i64 t273)).trans hx279_0; replace hx279_0 := (cell_far (p := ⟨gb278, 1, none⟩) (ab hn279_1) (.int .i64 t274)).trans hx279_0; replace hx279_0 := (cell_far (p := ⟨gb278, 2, none⟩) (ab hn279_2) (.int .u32 t275)).trans hx279_0; replace hx279_0 := (cell_far (p := ⟨gb278, 3, none⟩) (ab hn279_3) (.int .i64 t276)).trans hx279_0; clear hn279_0; clear hn279_1; clear hn279_2; clear hn279_3; replace p279 := eq_true p279; replace q279 := eq_true q279; have p280 : 0 ≤ (x14_4 : Int) := of_decide_eq_true as_; have q280 : x14_4 < (x5_3.length : Int) := of_decide_eq_true as_; obtain ⟨ad280, e280, hx280_0⟩ := Kd.at_int (Kd.R_reads' HO_5.out).2.2 x14_4 p280 q280; obtain rfl : ad279 = ad280 := (by injection e280); have hn280_0 : ad279.block ≠ gb278 := Kd.own_blk (Kd.R_ne HO_5.out BK278.out (by decide)); have hn280_1 : ad279.block ≠ gb278 := Kd.own_blk (Kd.R_ne HO_5.out BK278.out (by decide)); have hn280_2 : ad279.block ≠ gb278 := Kd.own_blk (Kd.R_ne HO_5.out BK278.out (by decide)); have hn280_3 : ad279.block ≠ gb278 := Kd.own_blk (Kd.R_ne HO_5.out BK278.out (by decide)); replace hx280_0 := (cell_far (p := ⟨gb278, 0, none⟩) (ab hn280_0) (.int .i64 t273)).trans hx280_0; replace hx280_0 := (cell_far (p := ⟨gb278, 1, none⟩) (ab hn280_1) (.int .i64 t274)).trans hx280_0; replace hx280_0 := (cell_far (p := ⟨gb278, 2, none⟩) (ab hn280_2) (.int .u32 t275)).trans hx280_0; replace hx280_0 := (cell_far (p := ⟨gb278, 3, none⟩) (ab hn280_3) (.int .i64 t276)).trans hx280_0; clear hn280_0; clear hn280_1; clear hn280_2; clear hn280_3; replace p280 := eq_true p280; replace q280 := eq_true q280; have p281 : 0 ≤ (x14_4 : Int) := of_decide_eq_true as_; have q281 : x14_4 < (x5_3.length : Int) := of_decide_eq_true as_; obtain ⟨ad281, e281, hx281_0⟩ := Kd.at_int (Kd.R_reads' HO_5.out).2.2 x14_4 p281 q281; obtain rfl : ad279 = ad281 := (by injection e281); have hn281_0 : ad279.block ≠ gb278 := Kd.own_blk (Kd.R_ne HO_5.out BK278.out (by decide)); have hn281_1 : ad279.block ≠ gb278 := Kd.own_blk (Kd.R_ne HO_5.out BK278.out (by decide)); have hn281_2 : ad279.block ≠ gb278 := Kd.own_blk (Kd.R_ne HO_5.out BK278.out (by decide)); have hn281_3 : ad279.block ≠ gb278 := Kd.own_blk (Kd.R_ne HO_5.out BK278.out (by decide)); replace hx281_0 := (cell_far (p := ⟨gb278, 0, none⟩) (ab hn281_0) (.int .i64 t273)).trans hx281_0; replace hx281_0 := (cell_far (p := ⟨gb278, 1, none⟩) (ab hn281_1) (.int .i64 t274)).trans hx281_0; replace hx281_0 := (cell_far (p := ⟨gb278, 2, none⟩) (ab hn281_2) (.int .u32 t275)).trans hx281_0; replace hx281_0 := (cell_far (p := ⟨gb278, 3, none⟩) (ab hn281_3) (.int .i64 t276)).trans hx281_0; clear hn281_0; clear hn281_1; clear hn281_2; clear hn281_3; replace p281 := eq_true p281; replace q281 := eq_true q281))
                     go_roundg k4
                     case measure => have := HK1.out; have := HK2.out; have := HK3.out; have := HK4.out; omega
                     case rel => exact ⟨(wrap64 (x14_4 + 1)), ev, H', ⟨by have := HK1.out; have := HK2.out; have := HK3.out; have := HK4.out; omega⟩, ⟨by (with_reducible repeat (first | apply Kd.R_alloc | apply Kd.R_drewN | apply Kd.R_drew)); exact Kd.R_mono (Kd.R_far (p := ⟨gb278, 3, none⟩) (Kd.R_far (p := ⟨gb278, 2, none⟩) (Kd.R_far (p := ⟨gb278, 1, none⟩) (Kd.R_far (p := ⟨gb278, 0, none⟩) (Kd.R_types HO_5.out BK278.out (by decide)) (fun _ hk => hk.2) (.int .i64 t273)) (fun _ hk => hk.2) (.int .i64 t274)) (fun _ hk => hk.2) (.int .u32 t275)) (fun _ hk => hk.2) (.int .i64 t276)) (fun _ hk => trivial)⟩, ⟨bk BK252⟩, ⟨bw⟩⟩
                ·replace H := ige H
                 rcases H with ⟨c97b0, H⟩ | ⟨c97b0, H⟩
                 ·replace H := ieq H
                  rcases H with ⟨c98b0, c98b1, H⟩ | ⟨c98, c98b0, c98b1, H⟩
                  ·replace H := ieq H
                   rcases H with ⟨c99b0, c99b1, H⟩ | ⟨c99, c99b0, c99b1, H⟩
                   ·have H' := Aside0.mk H
                    clear H
                    obtain ⟨z100_0, z100_1⟩ := ca2 BK252
                    obtain ⟨f100_0, f100_1⟩ := fa2 BK252
                    have p272 : 0 ≤ (x14_4 : Int) := of_decide_eq_true as_
                    have q272 : x14_4 < (l0_0.length : Int) := of_decide_eq_true as_
                    obtain ⟨ad272, e272, hx272_0⟩ := Kd.at_int HR0_0.out x14_4 p272 q272
                    cases e272
                    replace hx272_0 := cl HB hx272_0
                    replace p272 := eq_true p272
                    replace q272 := eq_true q272
                    go_wp2_with (first | ((with_reducible refine gf 36 ?_); refine gc Tryz.func36 (some 123) (spec_CtlRead.calls _ _ _ _ _ _ _ _ A60.out) ?_; rintro e w101 ⟨rfl, hb⟩; refine ⟨_, rfl, ?_⟩; replace HO_5 := Aside0.mk (Kd.R_below (ro HO_5) hb); replace BK252 := b_ BK252 hb; replace HB := hs hb; try clear hb) | ((with_reducible refine gd 15 ?_); refine bx 15 75 #[.int .i64 0, .int .i64 0, .int .u32 0, .int .i64 0] ?_; clear HB; intro gb278 w102 hg BK278 hb GE278 HB; replace HO_5 := Aside0.mk (Kd.R_below (ro HO_5) hb); have NB252_278 := nl BK252 hg; have NB278_252 := ng BK252 hg; replace BK252 := b_ BK252 hb; clear hb hg; have hnb103 := NB278_252.out; have hnc103 := NB252_278.out; obtain ⟨z104_0, z104_1, z104_2, z104_3⟩ := ca4 BK278; obtain ⟨f104_0, f104_1, f104_2, f104_3⟩ := fa4 BK278; obtain ⟨Ao105, co105, eo105⟩ := Kd.R_slice HO_5.out; subst eo105; have p279 : 0 ≤ (x14_4 : Int) := of_decide_eq_true as_; have q279 : x14_4 < (x5_3.length : Int) := of_decide_eq_true as_; obtain ⟨ad279, e279, hx279_0⟩ := Kd.at_int (Kd.R_reads' HO_5.out).2.2 x14_4 p279 q279; cases e279; have hn279_0 : ad279.block ≠ gb278 := Kd.own_blk (Kd.R_ne HO_5.out BK278.out (by decide)); have hn279_1 : ad279.block ≠ gb278 := Kd.own_blk (Kd.R_ne HO_5.out BK278.out (by decide)); have hn279_2 : ad279.block ≠ gb278 := Kd.own_blk (Kd.R_ne HO_5.out BK278.out (by decide)); have hn279_3 : ad279.block ≠ gb278 := Kd.own_blk (Kd.R_ne HO_5.out BK278.out (by decide)); replace hx279_0 := (cell_far (p := ⟨gb278, 0, none⟩) (ab hn279_0) (.int .i64 t273)).trans hx279_0; replace hx279_0 := (cell_far (p := ⟨gb278, 1, none⟩) (ab hn279_1) (.int .i64 t274)).trans hx279_0; replace hx279_0 := (cell_far (p := ⟨gb278, 2, none⟩) (ab hn279_2) (.int .u32 t275)).trans hx279_0; replace hx279_0 := (cell_far (p := ⟨gb278, 3, none⟩) (ab hn279_3) (.int .i64 t276)).trans hx279_0; clear hn279_0; clear hn279_1; clear hn279_2; clear hn279_3; replace p279 := eq_true p279; replace q279 := eq_true q279; have p282 : 0 ≤ (x14_4 : Int) := of_decide_eq_true as_; have q282 : x14_4 < (x5_3.length : Int) := of_decide_eq_true as_; obtain ⟨ad282, e282, hx282_0⟩ := Kd.at_int (Kd.R_reads' HO_5.out).2.2 x14_4 p282 q282; obtain rfl : ad279 = ad282 := (by injection e282); have hn282_0 : ad279.block ≠ gb278 := Kd.own_blk (Kd.R_ne HO_5.out BK278.out (by decide)); have hn282_1 : ad279.block ≠ gb278 := Kd.own_blk (Kd.R_ne HO_5.out BK278.out (by decide)); have hn282_2 : ad279.block ≠ gb278 := Kd.own_blk (Kd.R_ne HO_5.out BK278.out (by decide)); have hn282_3 : ad279.block ≠ gb278 := Kd.own_blk (Kd.R_ne HO_5.out BK278.out (by decide)); replace hx282_0 := (cell_far (p := ⟨gb278, 0, none⟩) (ab hn282_0) (.int .i64 t273)).trans hx282_0; replace hx282_0 := (cell_far (p := ⟨gb278, 1, none⟩) (ab hn282_1) (.int .i64 t274)).trans hx282_0; replace hx282_0 := (cell_far (p := ⟨gb278, 2, none⟩) (ab hn282_2) (.int .u32 t275)).trans hx282_0; replace hx282_0 := (cell_far (p := ⟨gb278, 3, none⟩) (ab hn282_3) (.int .i64 t276)).trans hx282_0; clear hn282_0; clear hn282_1; clear hn282_2; clear hn282_3; replace p282 := eq_true p282; replace q282 := eq_true q282; have p283 : 0 ≤ (x14_4 : Int) := of_decide_eq_true as_; have q283 : x14_4 < (x5_3.length : Int) := of_decide_eq_true as_; obtain ⟨ad283, e283, hx283_0⟩ := Kd.at_int (Kd.R_reads' HO_5.out).2.2 x14_4 p283 q283; obtain rfl : ad279 = ad283 := (by injection e283); have hn283_0 : ad279.block ≠ gb278 := Kd.own_blk (Kd.R_ne HO_5.out BK278.out (by decide)); have hn283_1 : ad279.block ≠ gb278 := Kd.own_blk (Kd.R_ne HO_5.out BK278.out (by decide)); have hn283_2 : ad279.block ≠ gb278 := Kd.own_blk (Kd.R_ne HO_5.out BK278.out (by decide)); have hn283_3 : ad279.block ≠ gb278 := Kd.own_blk (Kd.R_ne HO_5.out BK278.out (by decide)); replace hx283_0 := (cell_far (p := ⟨gb278, 0, none⟩) (ab hn283_0) (.int .i64 t273)).trans hx283_0; replace hx283_0 := (cell_far (p := ⟨gb278, 1, none⟩) (ab hn283_1) (.int .i64 t274)).trans hx283_0; replace hx283_0 := (cell_far (p := ⟨gb278, 2, none⟩) (ab hn283_2) (.int .u32 t275)).trans hx283_0; replace hx283_0 := (cell_far (p := ⟨gb278, 3, none⟩) (ab hn283_3) (.int .i64 t276)).trans hx283_0; clear hn283_0; clear hn283_1; clear hn283_2; clear hn283_3; replace p283 := eq_true p283; replace q283 := eq_true q283))
                    go_roundg k4
                    case measure => have := HK1.out; have := HK2.out; have := HK3.out; have := HK4.out; omega
                    case rel => exact ⟨(wrap64 (x14_4 + 1)), ev, H', ⟨by have := HK1.out; have := HK2.out; have := HK3.out; have := HK4.out; omega⟩, ⟨by (with_reducible repeat (first | apply Kd.R_alloc | apply Kd.R_drewN | apply Kd.R_drew)); exact Kd.R_mono (Kd.R_far (p := ⟨gb278, 3, none⟩) (Kd.R_far (p := ⟨gb278, 2, none⟩) (Kd.R_far (p := ⟨gb278, 1, none⟩) (Kd.R_far (p := ⟨gb278, 0, none⟩) (Kd.R_types HO_5.out BK278.out (by decide)) (fun _ hk => hk.2) (.int .i64 t273)) (fun _ hk => hk.2) (.int .i64 t274)) (fun _ hk => hk.2) (.int .u32 t275)) (fun _ hk => hk.2) (.int .i64 t276)) (fun _ hk => trivial)⟩, ⟨bk BK252⟩, ⟨bw⟩⟩
                   ·have H' := Aside0.mk H
                    clear H
                    obtain ⟨z106_0, z106_1⟩ := ca2 BK252
                    obtain ⟨f106_0, f106_1⟩ := fa2 BK252
                    have p272 : 0 ≤ (x14_4 : Int) := of_decide_eq_true as_
                    have q272 : x14_4 < (l0_0.length : Int) := of_decide_eq_true as_
                    obtain ⟨ad272, e272, hx272_0⟩ := Kd.at_int HR0_0.out x14_4 p272 q272
                    cases e272
                    replace hx272_0 := cl HB hx272_0
                    replace p272 := eq_true p272
                    replace q272 := eq_true q272
                    go_wp2_with (first | ((with_reducible refine gf 36 ?_); refine gc Tryz.func36 (some 123) (spec_CtlRead.calls _ _ _ _ _ _ _ _ A60.out) ?_; rintro e w107 ⟨rfl, hb⟩; refine ⟨_, rfl, ?_⟩; replace HO_5 := Aside0.mk (Kd.R_below (ro HO_5) hb); replace BK252 := b_ BK252 hb; replace HB := hs hb; try clear hb) | ((with_reducible refine gd 15 ?_); refine bx 15 75 #[.int .i64 0, .int .i64 0, .int .u32 0, .int .i64 0] ?_; clear HB; intro gb278 w108 hg BK278 hb GE278 HB; replace HO_5 := Aside0.mk (Kd.R_below (ro HO_5) hb); have NB252_278 := nl BK252 hg; have NB278_252 := ng BK252 hg; replace BK252 := b_ BK252 hb; clear hb hg; have hnb109 := NB278_252.out; have hnc109 := NB252_278.out; obtain ⟨z110_0, z110_1, z110_2, z110_3⟩ := ca4 BK278; obtain ⟨f110_0, f110_1, f110_2, f110_3⟩ := fa4 BK278; obtain ⟨Ao111, co111, eo111⟩ := Kd.R_slice HO_5.out; subst eo111; have p279 : 0 ≤ (x14_4 : Int) := of_decide_eq_true as_; have q279 : x14_4 < (x5_3.length : Int) := of_decide_eq_true as_; obtain ⟨ad279, e279, hx279_0⟩ := Kd.at_int (Kd.R_reads' HO_5.out).2.2 x14_4 p279 q279; cases e279; have hn279_0 : ad279.block ≠ gb278 := Kd.own_blk (Kd.R_ne HO_5.out BK278.out (by decide)); have hn279_1 : ad279.block ≠ gb278 := Kd.own_blk (Kd.R_ne HO_5.out BK278.out (by decide)); have hn279_2 : ad279.block ≠ gb278 := Kd.own_blk (Kd.R_ne HO_5.out BK278.out (by decide)); have hn279_3 : ad279.block ≠ gb278 := Kd.own_blk (Kd.R_ne HO_5.out BK278.out (by decide)); replace hx279_0 := (cell_far (p := ⟨gb278, 0, none⟩) (ab hn279_0) (.int .i64 t273)).trans hx279_0; replace hx279_0 := (cell_far (p := ⟨gb278, 1, none⟩) (ab hn279_1) (.int .i64 t274)).trans hx279_0; replace hx279_0 := (cell_far (p := ⟨gb278, 2, none⟩) (ab hn279_2) (.int .u32 t275)).trans hx279_0; replace hx279_0 := (cell_far (p := ⟨gb278, 3, none⟩) (ab hn279_3) (.int .i64 t276)).trans hx279_0; clear hn279_0; clear hn279_1; clear hn279_2; clear hn279_3; replace p279 := eq_true p279; replace q279 := eq_true q279; have p282 : 0 ≤ (x14_4 : Int) := of_decide_eq_true as_; have q282 : x14_4 < (x5_3.length : Int) := of_decide_eq_true as_; obtain ⟨ad282, e282, hx282_0⟩ := Kd.at_int (Kd.R_reads' HO_5.out).2.2 x14_4 p282 q282; obtain rfl : ad279 = ad282 := (by injection e282); have hn282_0 : ad279.block ≠ gb278 := Kd.own_blk (Kd.R_ne HO_5.out BK278.out (by decide)); have hn282_1 : ad279.block ≠ gb278 := Kd.own_blk (Kd.R_ne HO_5.out BK278.out (by decide)); have hn282_2 : ad279.block ≠ gb278 := Kd.own_blk (Kd.R_ne HO_5.out BK278.out (by decide)); have hn282_3 : ad279.block ≠ gb278 := Kd.own_blk (Kd.R_ne HO_5.out BK278.out (by decide)); replace hx282_0 := (cell_far (p := ⟨gb278, 0, none⟩) (ab hn282_0) (.int .i64 t273)).trans hx282_0; replace hx282_0 := (cell_far (p := ⟨gb278, 1, none⟩) (ab hn282_1) (.int .i64 t274)).trans hx282_0; replace hx282_0 := (cell_far (p := ⟨gb278, 2, none⟩) (ab hn282_2) (.int .u32 t275)).trans hx282_0; replace hx282_0 := (cell_far (p := ⟨gb278, 3, none⟩) (ab hn282_3) (.int .i64 t276)).trans hx282_0; clear hn282_0; clear hn282_1; clear hn282_2; clear hn282_3; replace p282 := eq_true p282; replace q282 := eq_true q282; have p283 : 0 ≤ (x14_4 : Int) := of_decide_eq_true as_; have q283 : x14_4 < (x5_3.length : Int) := of_decide_eq_true as_; obtain ⟨ad283, e283, hx283_0⟩ := Kd.at_int (Kd.R_reads' HO_5.out).2.2 x14_4 p283 q283; obtain rfl : ad279 = ad283 := (by injection e283); have hn283_0 : ad279.block ≠ gb278 := Kd.own_blk (Kd.R_ne HO_5.out BK278.out (by decide)); have hn283_1 : ad279.block ≠ gb278 := Kd.own_blk (Kd.R_ne HO_5.out BK278.out (by decide)); have hn283_2 : ad279.block ≠ gb278 := Kd.own_blk (Kd.R_ne HO_5.out BK278.out (by decide)); have hn283_3 : ad279.block ≠ gb278 := Kd.own_blk (Kd.R_ne HO_5.out BK278.out (by decide)); replace hx283_0 := (cell_far (p := ⟨gb278, 0, none⟩) (ab hn283_0) (.int .i64 t273)).trans hx283_0; replace hx283_0 := (cell_far (p := ⟨gb278, 1, none⟩) (ab hn283_1) (.int .i64 t274)).trans hx283_0; replace hx283_0 := (cell_far (p := ⟨gb278, 2, none⟩) (ab hn283_2) (.int .u32 t275)).trans hx283_0; replace hx283_0 := (cell_far (p := ⟨gb278, 3, none⟩) (ab hn283_3) (.int .i64 t276)).trans hx283_0; clear hn283_0; clear hn283_1; clear hn283_2; clear hn283_3; replace p283 := eq_true p283; replace q283 := eq_true q283))
                    go_roundg k4
                    case measure => have := HK1.out; have := HK2.out; have := HK3.out; have := HK4.out; omega
                    case rel => exact ⟨(wrap64 (x14_4 + 1)), ev, H', ⟨by have := HK1.out; have := HK2.out; have := HK3.out; have := HK4.out; omega⟩, ⟨by (with_reducible repeat (first | apply Kd.R_alloc | apply Kd.R_drewN | apply Kd.R_drew)); exact Kd.R_mono (Kd.R_far (p := ⟨gb278, 3, none⟩) (Kd.R_far (p := ⟨gb278, 2, none⟩) (Kd.R_far (p := ⟨gb278, 1, none⟩) (Kd.R_far (p := ⟨gb278, 0, none⟩) (Kd.R_types HO_5.out BK278.out (by decide)) (fun _ hk => hk.2) (.int .i64 t273)) (fun _ hk => hk.2) (.int .i64 t274)) (fun _ hk => hk.2) (.int .u32 t275)) (fun _ hk => hk.2) (.int .i64 t276)) (fun _ hk => trivial)⟩, ⟨bk BK252⟩, ⟨bw⟩⟩
                  ·simp only [Option.some.injEq, Prod.mk.injEq] at H
                   obtain ⟨rfl, rfl⟩ := H
                   obtain ⟨z112_0, z112_1⟩ := ca2 BK252
                   obtain ⟨f112_0, f112_1⟩ := fa2 BK252
                   have p272 : 0 ≤ (x14_4 : Int) := of_decide_eq_true as_
                   have q272 : x14_4 < (l0_0.length : Int) := of_decide_eq_true as_
                   obtain ⟨ad272, e272, hx272_0⟩ := Kd.at_int HR0_0.out x14_4 p272 q272
                   cases e272
                   replace hx272_0 := cl HB hx272_0
                   replace p272 := eq_true p272
                   replace q272 := eq_true q272
                   go_wp2_with (first | ((with_reducible refine gf 36 ?_); refine gc Tryz.func36 (some 123) (spec_CtlRead.calls _ _ _ _ _ _ _ _ A60.out) ?_; rintro e w113 ⟨rfl, hb⟩; refine ⟨_, rfl, ?_⟩; replace HO_5 := Aside0.mk (Kd.R_below (ro HO_5) hb); replace BK252 := b_ BK252 hb; replace HB := hs hb; try clear hb) | ((with_reducible refine gd 15 ?_); refine bx 15 75 #[.int .i64 0, .int .i64 0, .int .u32 0, .int .i64 0] ?_; clear HB; intro gb278 w114 hg BK278 hb GE278 HB; replace HO_5 := Aside0.mk (Kd.R_below (ro HO_5) hb); have NB252_278 := nl BK252 hg; have NB278_252 := ng BK252 hg; replace BK252 := b_ BK252 hb; clear hb hg; have hnb115 := NB278_252.out; have hnc115 := NB252_278.out; obtain ⟨z116_0, z116_1, z116_2, z116_3⟩ := ca4 BK278; obtain ⟨f116_0, f116_1, f116_2, f116_3⟩ := fa4 BK278; obtain ⟨Ao117, co117, eo117⟩ := Kd.R_slice HO_5.out; subst eo117; have p279 : 0 ≤ (x14_4 : Int) := of_decide_eq_true as_; have q279 : x14_4 < (x5_3.length : Int) := of_decide_eq_true as_; obtain ⟨ad279, e279, hx279_0⟩ := Kd.at_int (Kd.R_reads' HO_5.out).2.2 x14_4 p279 q279; cases e279; have hn279_0 : ad279.block ≠ gb278 := Kd.own_blk (Kd.R_ne HO_5.out BK278.out (by decide)); have hn279_1 : ad279.block ≠ gb278 := Kd.own_blk (Kd.R_ne HO_5.out BK278.out (by decide)); have hn279_2 : ad279.block ≠ gb278 := Kd.own_blk (Kd.R_ne HO_5.out BK278.out (by decide)); have hn279_3 : ad279.block ≠ gb278 := Kd.own_blk (Kd.R_ne HO_5.out BK278.out (by decide)); replace hx279_0 := (cell_far (p := ⟨gb278, 0, none⟩) (ab hn279_0) (.int .i64 t273)).trans hx279_0; replace hx279_0 := (cell_far (p := ⟨gb278, 1, none⟩) (ab hn279_1) (.int .i64 t274)).trans hx279_0; replace hx279_0 := (cell_far (p := ⟨gb278, 2, none⟩) (ab hn279_2) (.int .u32 t275)).trans hx279_0; replace hx279_0 := (cell_far (p := ⟨gb278, 3, none⟩) (ab hn279_3) (.int .i64 t276)).trans hx279_0; clear hn279_0; clear hn279_1; clear hn279_2; clear hn279_3; replace p279 := eq_true p279; replace q279 := eq_true q279; have p282 : 0 ≤ (x14_4 : Int) := of_decide_eq_true as_; have q282 : x14_4 < (x5_3.length : Int) := of_decide_eq_true as_; obtain ⟨ad282, e282, hx282_0⟩ := Kd.at_int (Kd.R_reads' HO_5.out).2.2 x14_4 p282 q282; obtain rfl : ad279 = ad282 := (by injection e282); have hn282_0 : ad279.block ≠ gb278 := Kd.own_blk (Kd.R_ne HO_5.out BK278.out (by decide)); have hn282_1 : ad279.block ≠ gb278 := Kd.own_blk (Kd.R_ne HO_5.out BK278.out (by decide)); have hn282_2 : ad279.block ≠ gb278 := Kd.own_blk (Kd.R_ne HO_5.out BK278.out (by decide)); have hn282_3 : ad279.block ≠ gb278 := Kd.own_blk (Kd.R_ne HO_5.out BK278.out (by decide)); replace hx282_0 := (cell_far (p := ⟨gb278, 0, none⟩) (ab hn282_0) (.int .i64 t273)).trans hx282_0; replace hx282_0 := (cell_far (p := ⟨gb278, 1, none⟩) (ab hn282_1) (.int .i64 t274)).trans hx282_0; replace hx282_0 := (cell_far (p := ⟨gb278, 2, none⟩) (ab hn282_2) (.int .u32 t275)).trans hx282_0; replace hx282_0 := (cell_far (p := ⟨gb278, 3, none⟩) (ab hn282_3) (.int .i64 t276)).trans hx282_0; clear hn282_0; clear hn282_1; clear hn282_2; clear hn282_3; replace p282 := eq_true p282; replace q282 := eq_true q282))
                   go_ret2
                   exact ⟨_, rt, by first | exact Kd.R_nil _ _ _ _ _ | exact Kd.N_nil _ _ _ _ _ | exact Kd.V_nil _ _ _ _ _ | exact Kd.Q_nil _ _ _ _ _ | exact Kd.S_nil _ _ _ _ _, bw⟩
                 ·replace H := ieq H
                  rcases H with ⟨c118b0, c118b1, H⟩ | ⟨c118, c118b0, c118b1, H⟩
                  ·replace H := ieq H
                   rcases H with ⟨c119b0, c119b1, H⟩ | ⟨c119, c119b0, c119b1, H⟩
                   ·have H' := Aside0.mk H
                    clear H
                    obtain ⟨z120_0, z120_1⟩ := ca2 BK252
                    obtain ⟨f120_0, f120_1⟩ := fa2 BK252
                    have p272 : 0 ≤ (x14_4 : Int) := of_decide_eq_true as_
                    have q272 : x14_4 < (l0_0.length : Int) := of_decide_eq_true as_
                    obtain ⟨ad272, e272, hx272_0⟩ := Kd.at_int HR0_0.out x14_4 p272 q272
                    cases e272
                    replace hx272_0 := cl HB hx272_0
                    replace p272 := eq_true p272
                    replace q272 := eq_true q272
                    go_wp2_with (first | ((with_reducible refine gf 36 ?_); refine gc Tryz.func36 (some 123) (spec_CtlRead.calls _ _ _ _ _ _ _ _ A60.out) ?_; rintro e w121 ⟨rfl, hb⟩; refine ⟨_, rfl, ?_⟩; replace HO_5 := Aside0.mk (Kd.R_below (ro HO_5) hb); replace BK252 := b_ BK252 hb; replace HB := hs hb; try clear hb) | ((with_reducible refine gd 15 ?_); refine bx 15 75 #[.int .i64 0, .int .i64 0, .int .u32 0, .int .i64 0] ?_; clear HB; intro gb278 w122 hg BK278 hb GE278 HB; replace HO_5 := Aside0.mk (Kd.R_below (ro HO_5) hb); have NB252_278 := nl BK252 hg; have NB278_252 := ng BK252 hg; replace BK252 := b_ BK252 hb; clear hb hg; have hnb123 := NB278_252.out; have hnc123 := NB252_278.out; obtain ⟨z124_0, z124_1, z124_2, z124_3⟩ := ca4 BK278; obtain ⟨f124_0, f124_1, f124_2, f124_3⟩ := fa4 BK278; obtain ⟨Ao125, co125, eo125⟩ := Kd.R_slice HO_5.out; subst eo125; have p279 : 0 ≤ (x14_4 : Int) := of_decide_eq_true as_; have q279 : x14_4 < (x5_3.length : Int) := of_decide_eq_true as_; obtain ⟨ad279, e279, hx279_0⟩ := Kd.at_int (Kd.R_reads' HO_5.out).2.2 x14_4 p279 q279; cases e279; have hn279_0 : ad279.block ≠ gb278 := Kd.own_blk (Kd.R_ne HO_5.out BK278.out (by decide)); have hn279_1 : ad279.block ≠ gb278 := Kd.own_blk (Kd.R_ne HO_5.out BK278.out (by decide)); have hn279_2 : ad279.block ≠ gb278 := Kd.own_blk (Kd.R_ne HO_5.out BK278.out (by decide)); have hn279_3 : ad279.block ≠ gb278 := Kd.own_blk (Kd.R_ne HO_5.out BK278.out (by decide)); replace hx279_0 := (cell_far (p := ⟨gb278, 0, none⟩) (ab hn279_0) (.int .i64 t273)).trans hx279_0; replace hx279_0 := (cell_far (p := ⟨gb278, 1, none⟩) (ab hn279_1) (.int .i64 t274)).trans hx279_0; replace hx279_0 := (cell_far (p := ⟨gb278, 2, none⟩) (ab hn279_2) (.int .u32 t275)).trans hx279_0; replace hx279_0 := (cell_far (p := ⟨gb278, 3, none⟩) (ab hn279_3) (.int .i64 t276)).trans hx279_0; clear hn279_0; clear hn279_1; clear hn279_2; clear hn279_3; replace p279 := eq_true p279; replace q279 := eq_true q279; have p282 : 0 ≤ (x14_4 : Int) := of_decide_eq_true as_; have q282 : x14_4 < (x5_3.length : Int) := of_decide_eq_true as_; obtain ⟨ad282, e282, hx282_0⟩ := Kd.at_int (Kd.R_reads' HO_5.out).2.2 x14_4 p282 q282; obtain rfl : ad279 = ad282 := (by injection e282); have hn282_0 : ad279.block ≠ gb278 := Kd.own_blk (Kd.R_ne HO_5.out BK278.out (by decide)); have hn282_1 : ad279.block ≠ gb278 := Kd.own_blk (Kd.R_ne HO_5.out BK278.out (by decide)); have hn282_2 : ad279.block ≠ gb278 := Kd.own_blk (Kd.R_ne HO_5.out BK278.out (by decide)); have hn282_3 : ad279.block ≠ gb278 := Kd.own_blk (Kd.R_ne HO_5.out BK278.out (by decide)); replace hx282_0 := (cell_far (p := ⟨gb278, 0, none⟩) (ab hn282_0) (.int .i64 t273)).trans hx282_0; replace hx282_0 := (cell_far (p := ⟨gb278, 1, none⟩) (ab hn282_1) (.int .i64 t274)).trans hx282_0; replace hx282_0 := (cell_far (p := ⟨gb278, 2, none⟩) (ab hn282_2) (.int .u32 t275)).trans hx282_0; replace hx282_0 := (cell_far (p := ⟨gb278, 3, none⟩) (ab hn282_3) (.int .i64 t276)).trans hx282_0; clear hn282_0; clear hn282_1; clear hn282_2; clear hn282_3; replace p282 := eq_true p282; replace q282 := eq_true q282; have p284 : 0 ≤ (x14_4 : Int) := of_decide_eq_true as_; have q284 : x14_4 < (x5_3.length : Int) := of_decide_eq_true as_; obtain ⟨ad284, e284, hx284_0⟩ := Kd.at_int (Kd.R_reads' HO_5.out).2.2 x14_4 p284 q284; obtain rfl : ad279 = ad284 := (by injection e284); have hn284_0 : ad279.block ≠ gb278 := Kd.own_blk (Kd.R_ne HO_5.out BK278.out (by decide)); have hn284_1 : ad279.block ≠ gb278 := Kd.own_blk (Kd.R_ne HO_5.out BK278.out (by decide)); have hn284_2 : ad279.block ≠ gb278 := Kd.own_blk (Kd.R_ne HO_5.out BK278.out (by decide)); have hn284_3 : ad279.block ≠ gb278 := Kd.own_blk (Kd.R_ne HO_5.out BK278.out (by decide)); replace hx284_0 := (cell_far (p := ⟨gb278, 0, none⟩) (ab hn284_0) (.int .i64 t273)).trans hx284_0; replace hx284_0 := (cell_far (p := ⟨gb278, 1, none⟩) (ab hn284_1) (.int .i64 t274)).trans hx284_0; replace hx284_0 := (cell_far (p := ⟨gb278, 2, none⟩) (ab hn284_2) (.int .u32 t275)).trans hx284_0; replace hx284_0 := (cell_far (p := ⟨gb278, 3, none⟩) (ab hn284_3) (.int .i64 t276)).trans hx284_0; clear hn284_0; clear hn284_1; clear hn284_2; clear hn284_3; replace p284 := eq_true p284; replace q284 := eq_true q284))
                    go_roundg k4
                    case measure => have := HK1.out; have := HK2.out; have := HK3.out; have := HK4.out; omega
                    case rel => exact ⟨(wrap64 (x14_4 + 1)), ev, H', ⟨by have := HK1.out; have := HK2.out; have := HK3.out; have := HK4.out; omega⟩, ⟨by (with_reducible repeat (first | apply Kd.R_alloc | apply Kd.R_drewN | apply Kd.R_drew)); exact Kd.R_mono (Kd.R_far (p := ⟨gb278, 3, none⟩) (Kd.R_far (p := ⟨gb278, 2, none⟩) (Kd.R_far (p := ⟨gb278, 1, none⟩) (Kd.R_far (p := ⟨gb278, 0, none⟩) (Kd.R_types HO_5.out BK278.out (by decide)) (fun _ hk => hk.2) (.int .i64 t273)) (fun _ hk => hk.2) (.int .i64 t274)) (fun _ hk => hk.2) (.int .u32 t275)) (fun _ hk => hk.2) (.int .i64 t276)) (fun _ hk => trivial)⟩, ⟨bk BK252⟩, ⟨bw⟩⟩
                   ·have HU126 := Aside0.mk H
                    clear H
                    obtain ⟨z127_0, z127_1⟩ := ca2 BK252
                    obtain ⟨f127_0, f127_1⟩ := fa2 BK252
                    have p272 : 0 ≤ (x14_4 : Int) := of_decide_eq_true as_
                    have q272 : x14_4 < (l0_0.length : Int) := of_decide_eq_true as_
                    obtain ⟨ad272, e272, hx272_0⟩ := Kd.at_int HR0_0.out x14_4 p272 q272
                    cases e272
                    replace hx272_0 := cl HB hx272_0
                    replace p272 := eq_true p272
                    replace q272 := eq_true q272
                    go_upto_if 168 with (first | ((with_reducible refine gf 36 ?_); refine gc Tryz.func36 (some 123) (spec_CtlRead.calls _ _ _ _ _ _ _ _ A60.out) ?_; rintro e w128 ⟨rfl, hb⟩; refine ⟨_, rfl, ?_⟩; replace HO_5 := Aside0.mk (Kd.R_below (ro HO_5) hb); replace BK252 := b_ BK252 hb; replace HB := hs hb; try clear hb) | ((with_reducible refine gd 15 ?_); refine bx 15 75 #[.int .i64 0, .int .i64 0, .int .u32 0, .int .i64 0] ?_; clear HB; intro gb278 w129 hg BK278 hb GE278 HB; replace HO_5 := Aside0.mk (Kd.R_below (ro HO_5) hb); have NB252_278 := nl BK252 hg; have NB278_252 := ng BK252 hg; replace BK252 := b_ BK252 hb; clear hb hg; have hnb130 := NB278_252.out; have hnc130 := NB252_278.out; obtain ⟨z131_0, z131_1, z131_2, z131_3⟩ := ca4 BK278; obtain ⟨f131_0, f131_1, f131_2, f131_3⟩ := fa4 BK278; obtain ⟨Ao132, co132, eo132⟩ := Kd.R_slice HO_5.out; subst eo132; have p279 : 0 ≤ (x14_4 : Int) := of_decide_eq_true as_; have q279 : x14_4 < (x5_3.length : Int) := of_decide_eq_true as_; obtain ⟨ad279, e279, hx279_0⟩ := Kd.at_int (Kd.R_reads' HO_5.out).2.2 x14_4 p279 q279; cases e279; have hn279_0 : ad279.block ≠ gb278 := Kd.own_blk (Kd.R_ne HO_5.out BK278.out (by decide)); have hn279_1 : ad279.block ≠ gb278 := Kd.own_blk (Kd.R_ne HO_5.out BK278.out (by decide)); have hn279_2 : ad279.block ≠ gb278 := Kd.own_blk (Kd.R_ne HO_5.out BK278.out (by decide)); have hn279_3 : ad279.block ≠ gb278 := Kd.own_blk (Kd.R_ne HO_5.out BK278.out (by decide)); replace hx279_0 := (cell_far (p := ⟨gb278, 0, none⟩) (ab hn279_0) (.int .i64 t273)).trans hx279_0; replace hx279_0 := (cell_far (p := ⟨gb278, 1, none⟩) (ab hn279_1) (.int .i64 t274)).trans hx279_0; replace hx279_0 := (cell_far (p := ⟨gb278, 2, none⟩) (ab hn279_2) (.int .u32 t275)).trans hx279_0; replace hx279_0 := (cell_far (p := ⟨gb278, 3, none⟩) (ab hn279_3) (.int .i64 t276)).trans hx279_0; clear hn279_0; clear hn279_1; clear hn279_2; clear hn279_3; replace p279 := eq_true p279; replace q279 := eq_true q279; have p282 : 0 ≤ (x14_4 : Int) := of_decide_eq_true as_; have q282 : x14_4 < (x5_3.length : Int) := of_decide_eq_true as_; obtain ⟨ad282, e282, hx282_0⟩ := Kd.at_int (Kd.R_reads' HO_5.out).2.2 x14_4 p282 q282; obtain rfl : ad279 = ad282 := (by injection e282); have hn282_0 : ad279.block ≠ gb278 := Kd.own_blk (Kd.R_ne HO_5.out BK278.out (by decide)); have hn282_1 : ad279.block ≠ gb278 := Kd.own_blk (Kd.R_ne HO_5.out BK278.out (by decide)); have hn282_2 : ad279.block ≠ gb278 := Kd.own_blk (Kd.R_ne HO_5.out BK278.out (by decide)); have hn282_3 : ad279.block ≠ gb278 := Kd.own_blk (Kd.R_ne HO_5.out BK278.out (by decide)); replace hx282_0 := (cell_far (p := ⟨gb278, 0, none⟩) (ab hn282_0) (.int .i64 t273)).trans hx282_0; replace hx282_0 := (cell_far (p := ⟨gb278, 1, none⟩) (ab hn282_1) (.int .i64 t274)).trans hx282_0; replace hx282_0 := (cell_far (p := ⟨gb278, 2, none⟩) (ab hn282_2) (.int .u32 t275)).trans hx282_0; replace hx282_0 := (cell_far (p := ⟨gb278, 3, none⟩) (ab hn282_3) (.int .i64 t276)).trans hx282_0; clear hn282_0; clear hn282_1; clear hn282_2; clear hn282_3; replace p282 := eq_true p282; replace q282 := eq_true q282; have p284 : 0 ≤ (x14_4 : Int) := of_decide_eq_true as_; have q284 : x14_4 < (x5_3.length : Int) := of_decide_eq_true as_; obtain ⟨ad284, e284, hx284_0⟩ := Kd.at_int (Kd.R_reads' HO_5.out).2.2 x14_4 p284 q284; obtain rfl : ad279 = ad284 := (by injection e284); have hn284_0 : ad279.block ≠ gb278 := Kd.own_blk (Kd.R_ne HO_5.out BK278.out (by decide)); have hn284_1 : ad279.block ≠ gb278 := Kd.own_blk (Kd.R_ne HO_5.out BK278.out (by decide)); have hn284_2 : ad279.block ≠ gb278 := Kd.own_blk (Kd.R_ne HO_5.out BK278.out (by decide)); have hn284_3 : ad279.block ≠ gb278 := Kd.own_blk (Kd.R_ne HO_5.out BK278.out (by decide)); replace hx284_0 := (cell_far (p := ⟨gb278, 0, none⟩) (ab hn284_0) (.int .i64 t273)).trans hx284_0; replace hx284_0 := (cell_far (p := ⟨gb278, 1, none⟩) (ab hn284_1) (.int .i64 t274)).trans hx284_0; replace hx284_0 := (cell_far (p := ⟨gb278, 2, none⟩) (ab hn284_2) (.int .u32 t275)).trans hx284_0; replace hx284_0 := (cell_far (p := ⟨gb278, 3, none⟩) (ab hn284_3) (.int .i64 t276)).trans hx284_0; clear hn284_0; clear hn284_1; clear hn284_2; clear hn284_3; replace p284 := eq_true p284; replace q284 := eq_true q284))
                    (try refine ap ?_)
                    have H := HU126.out
                    clear HU126
                    replace H := ieq H
                    rcases H with ⟨c133b0, c133b1, H⟩ | ⟨c133, c133b0, c133b1, H⟩
                    ·(first | rw [c133b0] | (simp only [i64_w, i32_w]; rw [c133b0]) | (simp only [c133b2, Bool.not_true, Bool.not_false]) | (simp only [c133b1, Bool.not_true, Bool.not_false]) | skip)
                     have H' := Aside0.mk H
                     clear H
                     go_wp2
                     go_roundg k4
                     case measure => have := HK1.out; have := HK2.out; have := HK3.out; have := HK4.out; omega
                     case rel => exact ⟨(wrap64 (x14_4 + 1)), ev, H', ⟨by have := HK1.out; have := HK2.out; have := HK3.out; have := HK4.out; omega⟩, ⟨by (with_reducible repeat (first | apply Kd.R_alloc | apply Kd.R_drewN | apply Kd.R_drew)); exact Kd.R_mono (Kd.R_far (p := ⟨gb278, 3, none⟩) (Kd.R_far (p := ⟨gb278, 2, none⟩) (Kd.R_far (p := ⟨gb278, 1, none⟩) (Kd.R_far (p := ⟨gb278, 0, none⟩) (Kd.R_types HO_5.out BK278.out (by decide)) (fun _ hk => hk.2) (.int .i64 t273)) (fun _ hk => hk.2) (.int .i64 t274)) (fun _ hk => hk.2) (.int .u32 t275)) (fun _ hk => hk.2) (.int .i64 t276)) (fun _ hk => trivial)⟩, ⟨bk BK252⟩, ⟨bw⟩⟩
                    ·(first | rw [c133b0] | (simp only [i64_w, i32_w]; rw [c133b0]) | (simp only [c133b2, Bool.not_true, Bool.not_false]) | (simp only [c133b1, Bool.not_true, Bool.not_false]) | skip)
                     simp only [Option.some.injEq, Prod.mk.injEq] at H
                     obtain ⟨rfl, rfl⟩ := H
                     go_wp2
                     go_ret2
                     exact ⟨_, rt, by first | exact Kd.R_nil _ _ _ _ _ | exact Kd.N_nil _ _ _ _ _ | exact Kd.V_nil _ _ _ _ _ | exact Kd.Q_nil _ _ _ _ _ | exact Kd.S_nil _ _ _ _ _, bw⟩
                  ·have H' := Aside0.mk H
                   clear H
                   obtain ⟨z134_0, z134_1⟩ := ca2 BK252
                   obtain ⟨f134_0, f134_1⟩ := fa2 BK252
                   have p272 : 0 ≤ (x14_4 : Int) := of_decide_eq_true as_
                   have q272 : x14_4 < (l0_0.length : Int) := of_decide_eq_true as_
                   obtain ⟨ad272, e272, hx272_0⟩ := Kd.at_int HR0_0.out x14_4 p272 q272
                   cases e272
                   replace hx272_0 := cl HB hx272_0
                   replace p272 := eq_true p272
                   replace q272 := eq_true q272
                   go_wp2_with (first | ((with_reducible refine gf 36 ?_); refine gc Tryz.func36 (some 123) (spec_CtlRead.calls _ _ _ _ _ _ _ _ A60.out) ?_; rintro e w135 ⟨rfl, hb⟩; refine ⟨_, rfl, ?_⟩; replace HO_5 := Aside0.mk (Kd.R_below (ro HO_5) hb); replace BK252 := b_ BK252 hb; replace HB := hs hb; try clear hb) | ((with_reducible refine gd 15 ?_); refine bx 15 75 #[.int .i64 0, .int .i64 0, .int .u32 0, .int .i64 0] ?_; clear HB; intro gb278 w136 hg BK278 hb GE278 HB; replace HO_5 := Aside0.mk (Kd.R_below (ro HO_5) hb); have NB252_278 := nl BK252 hg; have NB278_252 := ng BK252 hg; replace BK252 := b_ BK252 hb; clear hb hg; have hnb137 := NB278_252.out; have hnc137 := NB252_278.out; obtain ⟨z138_0, z138_1, z138_2, z138_3⟩ := ca4 BK278; obtain ⟨f138_0, f138_1, f138_2, f138_3⟩ := fa4 BK278; obtain ⟨Ao139, co139, eo139⟩ := Kd.R_slice HO_5.out; subst eo139; have p279 : 0 ≤ (x14_4 : Int) := of_decide_eq_true as_; have q279 : x14_4 < (x5_3.length : Int) := of_decide_eq_true as_; obtain ⟨ad279, e279, hx279_0⟩ := Kd.at_int (Kd.R_reads' HO_5.out).2.2 x14_4 p279 q279; cases e279; have hn279_0 : ad279.block ≠ gb278 := Kd.own_blk (Kd.R_ne HO_5.out BK278.out (by decide)); have hn279_1 : ad279.block ≠ gb278 := Kd.own_blk (Kd.R_ne HO_5.out BK278.out (by decide)); have hn279_2 : ad279.block ≠ gb278 := Kd.own_blk (Kd.R_ne HO_5.out BK278.out (by decide)); have hn279_3 : ad279.block ≠ gb278 := Kd.own_blk (Kd.R_ne HO_5.out BK278.out (by decide)); replace hx279_0 := (cell_far (p := ⟨gb278, 0, none⟩) (ab hn279_0) (.int .i64 t273)).trans hx279_0; replace hx279_0 := (cell_far (p := ⟨gb278, 1, none⟩) (ab hn279_1) (.int .i64 t274)).trans hx279_0; replace hx279_0 := (cell_far (p := ⟨gb278, 2, none⟩) (ab hn279_2) (.int .u32 t275)).trans hx279_0; replace hx279_0 := (cell_far (p := ⟨gb278, 3, none⟩) (ab hn279_3) (.int .i64 t276)).trans hx279_0; clear hn279_0; clear hn279_1; clear hn279_2; clear hn279_3; replace p279 := eq_true p279; replace q279 := eq_true q279; have p282 : 0 ≤ (x14_4 : Int) := of_decide_eq_true as_; have q282 : x14_4 < (x5_3.length : Int) := of_decide_eq_true as_; obtain ⟨ad282, e282, hx282_0⟩ := Kd.at_int (Kd.R_reads' HO_5.out).2.2 x14_4 p282 q282; obtain rfl : ad279 = ad282 := (by injection e282); have hn282_0 : ad279.block ≠ gb278 := Kd.own_blk (Kd.R_ne HO_5.out BK278.out (by decide)); have hn282_1 : ad279.block ≠ gb278 := Kd.own_blk (Kd.R_ne HO_5.out BK278.out (by decide)); have hn282_2 : ad279.block ≠ gb278 := Kd.own_blk (Kd.R_ne HO_5.out BK278.out (by decide)); have hn282_3 : ad279.block ≠ gb278 := Kd.own_blk (Kd.R_ne HO_5.out BK278.out (by decide)); replace hx282_0 := (cell_far (p := ⟨gb278, 0, none⟩) (ab hn282_0) (.int .i64 t273)).trans hx282_0; replace hx282_0 := (cell_far (p := ⟨gb278, 1, none⟩) (ab hn282_1) (.int .i64 t274)).trans hx282_0; replace hx282_0 := (cell_far (p := ⟨gb278, 2, none⟩) (ab hn282_2) (.int .u32 t275)).trans hx282_0; replace hx282_0 := (cell_far (p := ⟨gb278, 3, none⟩) (ab hn282_3) (.int .i64 t276)).trans hx282_0; clear hn282_0; clear hn282_1; clear hn282_2; clear hn282_3; replace p282 := eq_true p282; replace q282 := eq_true q282; have p284 : 0 ≤ (x14_4 : Int) := of_decide_eq_true as_; have q284 : x14_4 < (x5_3.length : Int) := of_decide_eq_true as_; obtain ⟨ad284, e284, hx284_0⟩ := Kd.at_int (Kd.R_reads' HO_5.out).2.2 x14_4 p284 q284; obtain rfl : ad279 = ad284 := (by injection e284); have hn284_0 : ad279.block ≠ gb278 := Kd.own_blk (Kd.R_ne HO_5.out BK278.out (by decide)); have hn284_1 : ad279.block ≠ gb278 := Kd.own_blk (Kd.R_ne HO_5.out BK278.out (by decide)); have hn284_2 : ad279.block ≠ gb278 := Kd.own_blk (Kd.R_ne HO_5.out BK278.out (by decide)); have hn284_3 : ad279.block ≠ gb278 := Kd.own_blk (Kd.R_ne HO_5.out BK278.out (by decide)); replace hx284_0 := (cell_far (p := ⟨gb278, 0, none⟩) (ab hn284_0) (.int .i64 t273)).trans hx284_0; replace hx284_0 := (cell_far (p := ⟨gb278, 1, none⟩) (ab hn284_1) (.int .i64 t274)).trans hx284_0; replace hx284_0 := (cell_far (p := ⟨gb278, 2, none⟩) (ab hn284_2) (.int .u32 t275)).trans hx284_0; replace hx284_0 := (cell_far (p := ⟨gb278, 3, none⟩) (ab hn284_3) (.int .i64 t276)).trans hx284_0; clear hn284_0; clear hn284_1; clear hn284_2; clear hn284_3; replace p284 := eq_true p284; replace q284 := eq_true q284))
                   go_roundg k4
                   case measure => have := HK1.out; have := HK2.out; have := HK3.out; have := HK4.out; omega
                   case rel => exact ⟨(wrap64 (x14_4 + 1)), ev, H', ⟨by have := HK1.out; have := HK2.out; have := HK3.out; have := HK4.out; omega⟩, ⟨by (with_reducible repeat (first | apply Kd.R_alloc | apply Kd.R_drewN | apply Kd.R_drew)); exact Kd.R_mono (Kd.R_far (p := ⟨gb278, 3, none⟩) (Kd.R_far (p := ⟨gb278, 2, none⟩) (Kd.R_far (p := ⟨gb278, 1, none⟩) (Kd.R_far (p := ⟨gb278, 0, none⟩) (Kd.R_types HO_5.out BK278.out (by decide)) (fun _ hk => hk.2) (.int .i64 t273)) (fun _ hk => hk.2) (.int .i64 t274)) (fun _ hk => hk.2) (.int .u32 t275)) (fun _ hk => hk.2) (.int .i64 t276)) (fun _ hk => trivial)⟩, ⟨bk BK252⟩, ⟨bw⟩⟩
               ·rw [if_neg c61] at H
                exact absurd H (by simp)
              ·rw [if_neg c59] at H
               exact absurd H (by simp)
             ·rw [if_neg c58] at H
              exact absurd H (by simp)
            ·simp only [Option.some.injEq, Prod.mk.injEq] at H
             obtain ⟨rfl, rfl⟩ := H
             go_wp2
             go_ret2
             exact ⟨_, rt, ro HO_5, bw⟩

end Go.Proofs.YtobboonnfocalaaGreatDoor.PG1
namespace Go.Proofs.YtobboonnfocalaaGreatDoor.PG1
open Go.RowKit Go.Proofs.YtobboonnfocalaaGreatDoorW.PrintWords Go.Proofs.YtobboonnfocalaaGreatDoorW.PrintLast Go.Proofs.YtobboonnfocalaaGreatDoorW.PrintMore Go.Proofs.YtobboonnfocalaaGreatDoor.T
attribute [local go_sem] max2_int min2_int max_two min_two max_three min_three max_four min_four   -- for this text's walks alone
set_option linter.unusedVariables false
set_option linter.unusedSimpArgs false

/-! ### spec_MachOk: function 15 -/
mutual
def spec_MachOk.j0 : Nat → Bool → List Int → List (S49) → Option (Bool)
 | 0, _, _, _ => none
 | k + 1, x21, x286000, x286001 => if x21 = true then (some false) else (spec_MachOk.l0 k 0 x286000 x286001)
def spec_MachOk.l0 : Nat → Int → List Int → List (S49) → Option (Bool)
 | 0, _, _, _ => none
 | k + 1, x3, x286000, x286001 => if x3 < (x286001.length : Int) then (if 0 ≤ x3 then ((spec_WarpOk.f k ((rd_T49 x286001 x3).f0) ((rd_T49 x286001 x3).f1) ((rd_T49 x286001 x3).f2) ((rd_T49 x286001 x3).f3) ((rd_T49 x286001 x3).f4) ((rd_T49 x286001 x3).f5) ((rd_T49 x286001 x3).f6) ((rd_T49 x286001 x3).f7) (x286000.length : Int)).bind fun t288 => (if t288 = true then (spec_MachOk.l0 k (wrap64 (x3 + 1)) x286000 x286001) else (some false))) else (none)) else ((spec_l08Owners.f k x286000 x286001).bind fun bt289 => (some bt289.2))
end
def spec_MachOk.f (k : Nat) (l0_0 : List Int) (l0_1 : List (S49)) : Option (Bool) := (spec_l07MemOk.f k l0_0).bind fun t286 => (if t286 = true then (if (l0_1.length : Int) < 1 then (spec_MachOk.j0 k true l0_0 l0_1) else (spec_MachOk.j0 k (decide ((l0_1.length : Int) > 4)) l0_0 l0_1)) else (spec_MachOk.j0 k true l0_0 l0_1))
theorem spec_MachOk.mono_l : ∀ k, (∀ y0 y1 y2, LeO (spec_MachOk.j0 k y0 y1 y2) (spec_MachOk.j0 (k + 1) y0 y1 y2)) ∧ (∀ y0 y1 y2, LeO (spec_MachOk.l0 k y0 y1 y2) (spec_MachOk.l0 (k + 1) y0 y1 y2))
 | 0 => ⟨fun _ _ _ r h => by simp [spec_MachOk.j0] at h, fun _ _ _ r h => by simp [spec_MachOk.l0] at h⟩
 | k + 1 => by
  obtain ⟨ih0, ih1⟩ := spec_MachOk.mono_l k
  refine ⟨?_, ?_⟩
  ·intro y0 y1 y2
   unfold spec_MachOk.j0
   repeat' first
    | (with_reducible first | exact ih0 .. | exact ih1 .. | exact spec_WarpOk.mono .. | exact spec_l07MemOk.mono .. | exact spec_l08Owners.mono .. | exact LeO.refl _ | exact LeO.none _ | refine LeO.ite ?_ ?_ | refine LeO.bind ?_ (fun _ => ?_))
    | exact LeO.none _ | refine LeO.ite ?_ ?_ | refine LeO.bind ?_ (fun _ => ?_)
  ·intro y0 y1 y2
   unfold spec_MachOk.l0
   repeat' first
    | (with_reducible first | exact ih0 .. | exact ih1 .. | exact spec_WarpOk.mono .. | exact spec_l07MemOk.mono .. | exact spec_l08Owners.mono .. | exact LeO.refl _ | exact LeO.none _ | refine LeO.ite ?_ ?_ | refine LeO.bind ?_ (fun _ => ?_))
    | exact LeO.none _ | refine LeO.ite ?_ ?_ | refine LeO.bind ?_ (fun _ => ?_)
theorem spec_MachOk.mono : ∀ a0 a1 k, LeO (spec_MachOk.f k a0 a1) (spec_MachOk.f (k + 1) a0 a1) := by
 intro a0 a1 k
 obtain ⟨ih0, ih1⟩ := spec_MachOk.mono_l k
 unfold spec_MachOk.f
 repeat' first
  | (with_reducible first | exact ih0 .. | exact ih1 .. | exact spec_WarpOk.mono .. | exact spec_l07MemOk.mono .. | exact spec_l08Owners.mono .. | exact LeO.refl _ | exact LeO.none _ | refine LeO.ite ?_ ?_ | refine LeO.bind ?_ (fun _ => ?_))
  | exact LeO.none _ | refine LeO.ite ?_ ?_ | refine LeO.bind ?_ (fun _ => ?_)
def spec_MachOk.T6 : Bool × List (List Nat × List Nat) := (true, [([], []), ([0], [0]), ([], []), ([1, 2], [1, 2]), ([3], [3]), ([], []), ([5], [5]), ([6], [6]), ([7], [7]), ([4, 8], [4, 8]), ([9], [9])])
def spec_MachOk.B6 : List Nat := [0, 1, 0, 7, 15, 0, 32, 96, 224, 511, 1023]
theorem spec_MachOk.tab6 : rtab .any (opsOf Tryz.f15 6) = spec_MachOk.T6 := kr
theorem spec_MachOk.bits6 : waitsOk spec_MachOk.T6.2 spec_MachOk.B6 = true := kr
set_option maxHeartbeats 2000000 in
set_option maxRecDepth 100000 in
theorem spec_MachOk.calls (k : Nat) (A0_0 : Option Addr) (c0_0 : Nat) (l0_0 : List Int) (A0_1 : Option Addr) (c0_1 : Nat) (l0_1 : List (S49)) (r : Bool) (w : World) (hr0_0 : Kd.C (Kd.int .u32) w A0_0 l0_0.length l0_0) (hc0_0 : l0_0.length ≤ c0_0) (hr0_1 : Kd.C k49 w A0_1 l0_1.length l0_1) (hc0_1 : l0_1.length ≤ c0_1) (h : spec_MachOk.f k l0_0 l0_1 = some r) :
  Calls Tryz.prog 15 #[.agg #[.slice A0_0 l0_0.length c0_0, .slice A0_1 l0_1.length c0_1]] w fun e w' => e = .returned (.bool r) ∧ Below w.heap.size w w' := by
 have hu37 := Tryz.underlying37
 have hu34 := Tryz.underlying34
 have hu49 := Tryz.underlying49
 have HR0_0 := Aside0.mk hr0_0
 have HC0_0 := Aside0.mk hc0_0
 clear hr0_0 hc0_0
 have HR0_1 := Aside0.mk hr0_1
 have HC0_1 := Aside0.mk hc0_1
 clear hr0_1 hc0_1
 have HB := Aside0.mk (Below.refl w.heap.size w)
 unfold spec_MachOk.f at h
 have H := h
 clear h
 have HC2 := Aside0.mk H
 clear H
 go_enter Tryz.func15, Tryz.ntmps15
 go_upto_region 1 with (first | ((with_reducible refine gate_dst (N := 1) rfl ?_); (try (refine gate_guard (by rfl) ?_; dsimp only)); refine box_event ?hg (N := 1) ?hd (cs := #[.slice A0_0 l0_0.length c0_0, .slice A0_1 l0_1.length c0_1]) (t := 37) ?hr ?_; (case hd => rfl); (case hg => rfl); (case hr => first | (go_simp; done) | (go_simp; rfl)); intro gb285 hg w3 hbox hb; have BK285 := Aside0.mk hbox; have GW285 := bz hg; have GE285 := bz hg; replace HB := hs hb; clear hb hbox hg))
 (try refine ap ?_)
 go_cut [21] (fun v21 wc => ∃ (kq : Nat) (x21_1 : Bool), v21 = .bool x21_1 ∧ Aside0 (spec_MachOk.j0 kq x21_1 l0_0 l0_1 = some r) ∧ Aside0 (kq ≤ k) ∧ Aside0 (wc.heap[gb285]? = some (.cells #[(.slice A0_0 l0_0.length c0_0), (.slice A0_1 l0_1.length c0_1)] 37 (0, 0))) ∧ Aside0 (Below w.heap.size w wc))
 case first =>
  have H := HC2.out
  clear HC2
  replace H := bn H
  obtain ⟨t286, A4, H⟩ := H
  try dsimp only at H
  replace H := ib H
  rcases H with ⟨rfl, H⟩ | ⟨rfl, H⟩
  ·(try simp only [Bool.not_true, Bool.not_false])
   by_cases c6 : (l0_1.length : Int) < 1
   ·rw [if_pos c6] at H
    have c6b0 : decide ((l0_1.length : Int) < 1) = true := decide_eq_true c6
    have c6b1 : decide (l0_1.length < 1) = true := decide_eq_true (by omega)
    clear c6
    have H' := Aside0.mk H
    clear H
    obtain ⟨z7_0, z7_1⟩ := ca2 BK285
    obtain ⟨f7_0, f7_1⟩ := fa2 BK285
    go_wp2_with (first | ((with_reducible refine gf 33 ?_); refine gc Tryz.func33 (some 8) (spec_l07MemOk.calls _ A0_0 c0_0 _ _ _ (cb HR0_0) HC0_0.out A4.out) ?_; rintro e w8 ⟨rfl, hb⟩; refine ⟨_, rfl, ?_⟩; replace BK285 := b_ BK285 hb; replace HB := hs hb; try clear hb; obtain ⟨z9_0, z9_1⟩ := ca2 BK285; obtain ⟨f9_0, f9_1⟩ := fa2 BK285))
    go_meet
    case rel => exact ⟨_, (true), ev, H', ⟨om⟩, ⟨bk BK285⟩, ⟨bw⟩⟩
   ·rw [if_neg c6] at H
    have c6b0 : decide ((l0_1.length : Int) < 1) = false := decide_eq_false c6
    have c6b1 : decide (l0_1.length < 1) = false := decide_eq_false (by omega)
    clear c6
    have H' := Aside0.mk H
    clear H
    obtain ⟨z10_0, z10_1⟩ := ca2 BK285
    obtain ⟨f10_0, f10_1⟩ := fa2 BK285
    go_wp2_with (first | ((with_reducible refine gf 33 ?_); refine gc Tryz.func33 (some 8) (spec_l07MemOk.calls _ A0_0 c0_0 _ _ _ (cb HR0_0) HC0_0.out A4.out) ?_; rintro e w11 ⟨rfl, hb⟩; refine ⟨_, rfl, ?_⟩; replace BK285 := b_ BK285 hb; replace HB := hs hb; try clear hb; obtain ⟨z12_0, z12_1⟩ := ca2 BK285; obtain ⟨f12_0, f12_1⟩ := fa2 BK285))
    go_meet
    case rel => exact ⟨_, (decide ((l0_1.length : Int) > 4)), ev, H', ⟨om⟩, ⟨bk BK285⟩, ⟨bw⟩⟩
  ·(try simp only [Bool.not_true, Bool.not_false])
   have H' := Aside0.mk H
   clear H
   obtain ⟨z13_0, z13_1⟩ := ca2 BK285
   obtain ⟨f13_0, f13_1⟩ := fa2 BK285
   go_wp2_with (first | ((with_reducible refine gf 33 ?_); refine gc Tryz.func33 (some 8) (spec_l07MemOk.calls _ A0_0 c0_0 _ _ _ (cb HR0_0) HC0_0.out A4.out) ?_; rintro e w14 ⟨rfl, hb⟩; refine ⟨_, rfl, ?_⟩; replace BK285 := b_ BK285 hb; replace HB := hs hb; try clear hb))
   go_meet
   case rel => exact ⟨_, (true), ev, H', ⟨om⟩, ⟨bk BK285⟩, ⟨bw⟩⟩
 case rest =>
  clear HC2
  obtain ⟨kq, x21_1, rfl, HA, HJ1, BK285, HB⟩ := hcut
  cases kq with
  | zero => exact absurd HA.out (by simp [spec_MachOk.j0])
  | succ kj1 =>
   have H := HA.out
   clear HA
   simp only [spec_MachOk.j0] at H
   replace H := ib H
   rcases H with ⟨rfl, H⟩ | ⟨rfl, H⟩
   ·obtain rfl := Option.some.inj H
    go_wp2
    go_ret
    exact ⟨rt, bw⟩
   ·have H' := Aside0.mk H
    clear H
    go_wp2
    go_loopg [3] kj1 (fun kq v3 w' => ∃ (x3_2 : Int), v3 = .int .i64 x3_2 ∧ Aside0 (spec_MachOk.l0 kq x3_2 l0_0 l0_1 = some r) ∧ Aside0 (kq ≤ kj1) ∧ Aside0 (w'.heap[gb285]? = some (.cells #[(.slice A0_0 l0_0.length c0_0), (.slice A0_1 l0_1.length c0_1)] 37 (0, 0))) ∧ Aside0 (Below w.heap.size w w'))
    case atStart => exact ⟨(0), ev, H', ⟨Nat.le_refl _⟩, ⟨bk BK285⟩, ⟨bw⟩⟩
    case round =>
     clear H'
     try clear c15
     obtain ⟨x3_2, rfl, HA, HK2, BK285, HB⟩ := hrel
     cases gk with
     | zero => exact absurd HA.out (by simp [spec_MachOk.l0])
     | succ k2 =>
      have H := HA.out
      clear HA
      simp only [spec_MachOk.l0] at H
      replace H := ilt H
      rcases H with ⟨c16b0, H⟩ | ⟨c16b0, H⟩
      ·by_cases c17 : 0 ≤ x3_2
       ·rw [if_pos c17] at H
        have c17b0 : decide (0 ≤ x3_2) = true := decide_eq_true c17
        clear c17
        replace H := bn H
        obtain ⟨t288, A18, H⟩ := H
        try dsimp only at H
        have HU19 := Aside0.mk H
        clear H
        obtain ⟨z20_0, z20_1⟩ := ca2 BK285
        obtain ⟨f20_0, f20_1⟩ := fa2 BK285
        try go_wp2
        replace BK285 := bd BK285
        replace HB := hd HB
        have p287 : 0 ≤ (x3_2 : Int) := of_decide_eq_true as_
        have q287 : x3_2 < (l0_1.length : Int) := of_decide_eq_true as_
        obtain ⟨ad287, A287_1, c287_1, A287_2, c287_2, e287, hx287_0, hx287_1, hx287_2, hx287_3, hx287_4, hx287_5, hx287_6, hx287_7, hl287_1, hi287_1, hl287_2, hi287_2⟩ := at_T49 HR0_1.out x3_2 p287 q287
        have hw287_7 := hx287_7
        have hw287_6 := hx287_6
        have hw287_5 := hx287_5
        have hw287_4 := hx287_4
        have hw287_3 := hx287_3
        have hw287_2 := hx287_2
        have hw287_1 := hx287_1
        have hw287_0 := hx287_0
        cases e287
        replace hx287_0 := cl HB hx287_0
        replace hx287_1 := cl HB hx287_1
        replace hx287_2 := cl HB hx287_2
        replace hx287_3 := cl HB hx287_3
        replace hx287_4 := cl HB hx287_4
        replace hx287_5 := cl HB hx287_5
        replace hx287_6 := cl HB hx287_6
        replace hx287_7 := cl HB hx287_7
        have HR287_1 := Aside0.mk hi287_1
        have HC287_1 := Aside0.mk hl287_1
        clear hi287_1 hl287_1
        have HR287_2 := Aside0.mk hi287_2
        have HC287_2 := Aside0.mk hl287_2
        clear hi287_2 hl287_2
        replace p287 := eq_true p287
        replace q287 := eq_true q287
        refine st 11 (fun w' => CA w' gb285 0 [.slice A0_0 l0_0.length c0_0, .slice (some ad287) l0_1.length c0_1] ∧ w'.cell? (ad287.add ((x3_2).toNat * 8)) = some (.int .i64 ((rd_T49 l0_1 x3_2).f0)) ∧ w'.cell? ⟨(ad287.add ((x3_2).toNat * 8)).block, (ad287.add ((x3_2).toNat * 8)).off + 1, none⟩ = some (.slice A287_1 ((rd_T49 l0_1 x3_2).f1).length c287_1) ∧ w'.cell? ⟨(ad287.add ((x3_2).toNat * 8)).block, (ad287.add ((x3_2).toNat * 8)).off + 2, none⟩ = some (.slice A287_2 ((rd_T49 l0_1 x3_2).f2).length c287_2) ∧ w'.cell? ⟨(ad287.add ((x3_2).toNat * 8)).block, (ad287.add ((x3_2).toNat * 8)).off + 3, none⟩ = some (.int .u32 ((rd_T49 l0_1 x3_2).f3)) ∧ w'.cell? ⟨(ad287.add ((x3_2).toNat * 8)).block, (ad287.add ((x3_2).toNat * 8)).off + 4, none⟩ = some (.int .i64 ((rd_T49 l0_1 x3_2).f4)) ∧ w'.cell? ⟨(ad287.add ((x3_2).toNat * 8)).block, (ad287.add ((x3_2).toNat * 8)).off + 5, none⟩ = some (.int .i64 ((rd_T49 l0_1 x3_2).f5)) ∧ w'.cell? ⟨(ad287.add ((x3_2).toNat * 8)).block, (ad287.add ((x3_2).toNat * 8)).off + 6, none⟩ = some (.int .i64 ((rd_T49 l0_1 x3_2).f6)) ∧ w'.cell? ⟨(ad287.add ((x3_2).toNat * 8)).block, (ad287.add ((x3_2).toNat * 8)).off + 7, none⟩ = some (.int .u32 ((rd_T49 l0_1 x3_2).f7))) [] ⟨cx BK285, (cl HB hw287_0 :), (cl HB hw287_1 :), (cl HB hw287_2 :), (cl HB hw287_3 :), (cl HB hw287_4 :), (cl HB hw287_5 :), (cl HB hw287_6 :), (cl HB hw287_7 :)⟩ spec_MachOk.tab6 spec_MachOk.bits6 ?_; intro hHeld HT_ HW_
        generalize wr.drew = w21 at BK285 HB HR287_1 HR287_2 hx287_0 hx287_1 hx287_2 hx287_3 hx287_4 hx287_5 hx287_6 hx287_7 hHeld ⊢
        refine pu 0 29 (bl 11 1) ?_
        refine pu 2 31 (bl 11 5) ?_
        refine pu 5 34 (bl 11 37) ?_
        refine pu 6 35 (bl 11 101) ?_
        refine tk 1 30 (bl 11 103) ?_
        refine pu 3 32 (bl 11 111) ?_
        refine tk 4 33 (bl 11 127) ?_
        refine tk 7 36 (bl 11 255) ?_
        refine pu 8 37 (bl 11 511) ?_
        refine on_ 9 (some 38) (bl 11 1023) (fun K hK => ?_)
        refine gq Tryz.func34 (spec_WarpOk.calls _ _ A287_1 c287_1 _ A287_2 c287_2 _ _ _ _ _ _ _ _ _ (cb HR287_1) HC287_1.out (cb HR287_2) HC287_2.out A18.out) ?_
        rintro e w22 ⟨rfl, hb⟩
        refine ⟨_, rfl, ?_⟩
        replace BK285 := b_ BK285 hb
        replace HB := hs hb
        (try clear hb)
        refine hK.out _ _ ⟨cx BK285, (cl HB hw287_0 :), (cl HB hw287_1 :), (cl HB hw287_2 :), (cl HB hw287_3 :), (cl HB hw287_4 :), (cl HB hw287_5 :), (cl HB hw287_6 :), (cl HB hw287_7 :)⟩ (fun hHeld => ?_)
        clear hK K
        refine nm ?_
        refine pu 10 39 (bl 11 2047) ?_
        refine dn ?_ _
        go_upto_if 39 with (fail)
        have H := HU19.out
        clear HU19
        replace H := ib H
        rcases H with ⟨rfl, H⟩ | ⟨rfl, H⟩
        ·(try simp only [Bool.not_true, Bool.not_false])
         have H' := Aside0.mk H
         clear H
         go_wp2
         go_roundg k2
         case measure => have := HJ1.out; have := HK2.out; omega
         case rel => exact ⟨(wrap64 (x3_2 + 1)), ev, H', ⟨by have := HJ1.out; have := HK2.out; omega⟩, ⟨bk BK285⟩, ⟨bw⟩⟩
        ·(try simp only [Bool.not_true, Bool.not_false])
         obtain rfl := Option.some.inj H
         go_wp2
         go_ret
         exact ⟨rt, bw⟩
       ·rw [if_neg c17] at H
        exact absurd H (by simp)
      ·replace H := bn H
       obtain ⟨⟨t289, t292⟩, A24, H⟩ := H
       try dsimp only at H
       obtain rfl := Option.some.inj H
       obtain ⟨z25_0, z25_1⟩ := ca2 BK285
       obtain ⟨f25_0, f25_1⟩ := fa2 BK285
       go_wp2_with (first | ((with_reducible refine gf 35 ?_); refine gc Tryz.func35 (some 42) (spec_l08Owners.calls _ A0_0 c0_0 _ A0_1 c0_1 _ _ _ _ (cb HR0_0) HC0_0.out (cb HR0_1) HC0_1.out A24.out) ?_; rintro e w26 ⟨v290, rfl, ho0, hb⟩; refine ⟨_, rfl, ?_⟩; have HO291 := Aside0.mk (Kd.R_lower ho0 (below_size bw)); replace BK285 := b_ BK285 hb; replace HB := hs hb; try clear hb; (try clear ho0)))
       go_ret
       exact ⟨rt, bw⟩

end Go.Proofs.YtobboonnfocalaaGreatDoor.PG1
namespace Go.Proofs.YtobboonnfocalaaGreatDoor.PG1
open Go.RowKit Go.Proofs.YtobboonnfocalaaGreatDoorW.PrintWords Go.Proofs.YtobboonnfocalaaGreatDoorW.PrintLast Go.Proofs.YtobboonnfocalaaGreatDoorW.PrintMore Go.Proofs.YtobboonnfocalaaGreatDoor.T
attribute [local go_sem] max2_int min2_int max_two min_two max_three min_three max_four min_four   -- for this text's walks alone
set_option linter.unusedVariables false
set_option linter.unusedSimpArgs false

/-! ### spec_Audit: function 16 -/
mutual
def spec_Audit.l0 : Nat → List (S55) → Int → List Int → Option ((List (S55)) × Bool)
 | 0, _, _, _ => none
 | k + 1, x4, x5, x294000 => if x5 < (x294000.length : Int) then (if 0 ≤ x5 then ((spec_CtlRead.f k (rd x294000 x5)).bind fun bt299 => ((spec_BitList.f k bt299.2.2.1).bind fun t305 => (spec_Audit.l1 k x4 x5 t305 0 x294000 bt299.1 bt299.2.1 bt299.2.2.1 bt299.2.2.2.1))) else (none)) else (some (x4, true))
def spec_Audit.l1 : Nat → List (S55) → Int → List Int → Int → List Int → Int → Int → Int → Int → Option ((List (S55)) × Bool)
 | 0, _, _, _, _, _, _, _, _, _ => none
 | k + 1, x4, x5, x8, x9, x294000, x305000, x305001, x305002, x305003 => if x9 < (x8.length : Int) then (if 0 ≤ x9 then ((spec_ClassSize.f k x305001).bind fun t309 => ((spec_ClassSize.f k x305001).bind fun t310 => (if x4.length < 8796093022208 then (spec_Audit.l1 k (x4 ++ [(⟨wrap64 ((wrap64 (16 * x5)) + (wrap64 ((rd x8 x9) * t309))), t310⟩ : S55)]) x5 x8 (wrap64 (x9 + 1)) x294000 x305000 x305001 x305002 x305003) else (none)))) else (none)) else (if x305000 = 2 then (if x4.length < 8796093022208 then (spec_Audit.l0 k (x4 ++ [(⟨wrap64 (16 * x5), wrap64 (16 * x305003)⟩ : S55)]) (wrap64 (x5 + 1)) x294000) else (none)) else (spec_Audit.l0 k x4 (wrap64 (x5 + 1)) x294000))
end
def spec_Audit.f (k : Nat) (l0_0 : List Int) : Option ((List (S55)) × Bool) := (spec_l07MemOk.f k l0_0).bind fun t294 => (if t294 = true then (spec_Audit.l0 k (([] : List (S55))) 0 l0_0) else (some (([] : List (S55)), false)))
theorem spec_Audit.mono_l : ∀ k, (∀ y0 y1 y2, LeO (spec_Audit.l0 k y0 y1 y2) (spec_Audit.l0 (k + 1) y0 y1 y2)) ∧ (∀ y0 y1 y2 y3 y4 y5 y6 y7 y8, LeO (spec_Audit.l1 k y0 y1 y2 y3 y4 y5 y6 y7 y8) (spec_Audit.l1 (k + 1) y0 y1 y2 y3 y4 y5 y6 y7 y8))
 | 0 => ⟨fun _ _ _ r h => by simp [spec_Audit.l0] at h, fun _ _ _ _ _ _ _ _ _ r h => by simp [spec_Audit.l1] at h⟩
 | k + 1 => by
  obtain ⟨ih0, ih1⟩ := spec_Audit.mono_l k
  refine ⟨?_, ?_⟩
  ·intro y0 y1 y2
   unfold spec_Audit.l0
   repeat' first
    | (with_reducible first | exact ih0 .. | exact ih1 .. | exact spec_BitList.mono .. | exact spec_ClassSize.mono .. | exact spec_CtlRead.mono .. | exact spec_l07MemOk.mono .. | exact LeO.refl _ | exact LeO.none _ | refine LeO.ite ?_ ?_ | refine LeO.bind ?_ (fun _ => ?_))
    | exact LeO.none _ | refine LeO.ite ?_ ?_ | refine LeO.bind ?_ (fun _ => ?_)
  ·intro y0 y1 y2 y3 y4 y5 y6 y7 y8
   unfold spec_Audit.l1
   repeat' first
    | (with_reducible first | exact ih0 .. | exact ih1 .. | exact spec_BitList.mono .. | exact spec_ClassSize.mono .. | exact spec_CtlRead.mono .. | exact spec_l07MemOk.mono .. | exact LeO.refl _ | exact LeO.none _ | refine LeO.ite ?_ ?_ | refine LeO.bind ?_ (fun _ => ?_))
    | exact LeO.none _ | refine LeO.ite ?_ ?_ | refine LeO.bind ?_ (fun _ => ?_)
theorem spec_Audit.mono : ∀ a0 k, LeO (spec_Audit.f k a0) (spec_Audit.f (k + 1) a0) := by
 intro a0 k
 obtain ⟨ih0, ih1⟩ := spec_Audit.mono_l k
 unfold spec_Audit.f
 repeat' first
  | (with_reducible first | exact ih0 .. | exact ih1 .. | exact spec_BitList.mono .. | exact spec_ClassSize.mono .. | exact spec_CtlRead.mono .. | exact spec_l07MemOk.mono .. | exact LeO.refl _ | exact LeO.none _ | refine LeO.ite ?_ ?_ | refine LeO.bind ?_ (fun _ => ?_))
  | exact LeO.none _ | refine LeO.ite ?_ ?_ | refine LeO.bind ?_ (fun _ => ?_)
def spec_Audit.T12 : Bool × List (List Nat × List Nat) := (true, [([], []), ([], []), ([1], [1]), ([], []), ([], []), ([3, 4], [3, 4]), ([5], [5]), ([], []), ([7], [7]), ([8], [8]), ([6, 9], [6, 9]), ([2, 10], [2, 10]), ([], []), ([12], [12]), ([13, 9], [13]), ([11, 14], [11, 14]), ([15], [15]), ([0, 16, 14], [0, 16]), ([17, 17, 0, 1, 2, 3, 4, 5, 6, 7, 8, 9, 10, 11, 12, 13, 14, 15, 16, 17], [0, 17])])
def spec_Audit.B12 : List Nat := [0, 0, 2, 0, 0, 24, 56, 0, 128, 384, 1016, 2046, 0, 4096, 13184, 32766, 65534, 131071, 262143]
theorem spec_Audit.tab12 : rtab .any (opsOf Tryz.f16 12) = spec_Audit.T12 := kr
theorem spec_Audit.bits12 : waitsOk spec_Audit.T12.2 spec_Audit.B12 = true := kr
set_option maxHeartbeats 2000000 in
set_option maxRecDepth 100000 in
theorem spec_Audit.calls (k : Nat) (A0_0 : Option Addr) (c0_0 : Nat) (l0_0 : List Int) (r1 : List (S55)) (r2 : Bool) (w : World) (hr0_0 : Kd.C (Kd.int .u32) w A0_0 l0_0.length l0_0) (hc0_0 : l0_0.length ≤ c0_0) (h : spec_Audit.f k l0_0 = some (r1, r2)) :
  Calls Tryz.prog 16 #[.agg #[.slice A0_0 l0_0.length c0_0]] w fun e w' => ∃ v0_ : Value, e = .returned (.tuple #[v0_, .bool r2]) ∧ Kd.R k55 55 w' w.heap.size (fun _ => True) v0_ r1 ∧ Below w.heap.size w w' := by
 have hu34 := Tryz.underlying34
 have hu75 := Tryz.underlying75
 have hu55 := Tryz.underlying55
 have HR0_0 := Aside0.mk hr0_0
 have HC0_0 := Aside0.mk hc0_0
 clear hr0_0 hc0_0
 have HB := Aside0.mk (Below.refl w.heap.size w)
 unfold spec_Audit.f at h
 have H := h
 clear h
 replace H := bn H
 obtain ⟨t294, A2, H⟩ := H
 try dsimp only at H
 have HU3 := Aside0.mk H
 clear H
 go_enter Tryz.func16, Tryz.ntmps16
 go_upto_if 12 with (first | ((with_reducible refine gd 1 ?_); refine bx 1 34 #[.slice A0_0 l0_0.length c0_0] ?_; clear HB; intro gb293 w4 hg BK293 hb GE293 HB; clear hb hg; have z5_0 := ca1 BK293; have f5_0 := blk_frozen BK293.out 0) | ((with_reducible refine gf 33 ?_); refine gc Tryz.func33 (some 11) (spec_l07MemOk.calls _ A0_0 c0_0 _ _ _ (cb HR0_0) HC0_0.out A2.out) ?_; rintro e w6 ⟨rfl, hb⟩; refine ⟨_, rfl, ?_⟩; replace BK293 := b_ BK293 hb; replace HB := hs hb; try clear hb))
 (try refine ap ?_)
 have H := HU3.out
 clear HU3
 replace H := ib H
 rcases H with ⟨rfl, H⟩ | ⟨rfl, H⟩
 ·(try simp only [Bool.not_true, Bool.not_false])
  obtain ⟨y295, hy295⟩ : ∃ y_ : List (S55), y_ = (([] : List (S55))) := ⟨_, rfl⟩
  rw [← hy295] at H
  try with_reducible replace H := bs H
  have Ny295 := Aside0.mk hy295
  clear hy295
  have H' := Aside0.mk H
  clear H
  go_wp2_with (first | ((with_reducible refine gate_dst (N := 13) rfl ?_); refine Kd.R_lit k55 _ 55 ?hg (N := 13) ?hd (xs := ([] : List (S55))) (inner := []) (ok := fun _ => True) (okp := fun _ => True) ?hr ?hp (fun _ hk => hk) trivial (Below.refl _ _) (Nat.le_refl _) (by simp) ?_; (case hd => rfl); (case hg => rfl); (case hr => first | (go_simp; done) | (go_simp; rfl)); (case hp => exact (Reps.none _ _)); intro v296 w8 ho9 hb hg_ hnew_; clear hg_ hnew_; (first | rw [← Ny295.out] at ho9 | (simp only [Int.reduceToNat] at ho9; rw [← Ny295.out] at ho9)); have HO297 := Aside0.mk (Kd.R_lower ho9 (below_size bw)); replace BK293 := b_ BK293 hb; replace HB := hs hb; clear hb ho9))
  go_loopg [4, 5] k (fun kq v4 v5 w' => ∃ (x4_1 : List (S55)) (x5_1 : Int), v5 = .int .i64 x5_1 ∧ Aside0 (spec_Audit.l0 kq x4_1 x5_1 l0_0 = some (r1, r2)) ∧ Aside0 (kq ≤ k) ∧ Aside0 (Kd.R k55 55 w' w.heap.size (fun _ => True) v4 x4_1) ∧ Aside0 (w'.heap[gb293]? = some (.cells #[(.slice A0_0 l0_0.length c0_0)] 34 (0, 0))) ∧ Aside0 (Below w.heap.size w w'))
  case atStart => exact ⟨(y295), (0), ev, H', ⟨Nat.le_refl _⟩, ⟨ro HO297⟩, ⟨bk BK293⟩, ⟨bw⟩⟩
  case round =>
   clear H'
   try clear c7
   (try clear z5_0)
   (try clear f5_0)
   obtain ⟨x4_1, x5_1, rfl, HA, HK1, HO_4, BK293, HB⟩ := hrel
   cases gk with
   | zero => exact absurd HA.out (by simp [spec_Audit.l0])
   | succ k1 =>
    have H := HA.out
    clear HA
    simp only [spec_Audit.l0] at H
    replace H := ilt H
    rcases H with ⟨c10b0, H⟩ | ⟨c10b0, H⟩
    ·by_cases c11 : 0 ≤ x5_1
     ·rw [if_pos c11] at H
      have c11b0 : decide (0 ≤ x5_1) = true := decide_eq_true c11
      clear c11
      replace H := bn H
      obtain ⟨⟨t299, t300, t301, t302, t303⟩, A12, H⟩ := H
      try dsimp only at H
      replace H := bn H
      obtain ⟨t305, A13, H⟩ := H
      try dsimp only at H
      have H' := Aside0.mk H
      clear H
      have z14_0 := ca1 BK293
      have f14_0 := blk_frozen BK293.out 0
      have p298 : 0 ≤ (x5_1 : Int) := of_decide_eq_true as_
      have q298 : x5_1 < (l0_0.length : Int) := of_decide_eq_true as_
      obtain ⟨ad298, e298, hx298_0⟩ := Kd.at_int HR0_0.out x5_1 p298 q298
      cases e298
      replace hx298_0 := cl HB hx298_0
      replace p298 := eq_true p298
      replace q298 := eq_true q298
      go_wp2_with (first | ((with_reducible refine gf 36 ?_); refine gc Tryz.func36 (some 27) (spec_CtlRead.calls _ _ _ _ _ _ _ _ A12.out) ?_; rintro e w15 ⟨rfl, hb⟩; refine ⟨_, rfl, ?_⟩; replace HO_4 := Aside0.mk (Kd.R_below (ro HO_4) hb); replace BK293 := b_ BK293 hb; replace HB := hs hb; try clear hb) | ((with_reducible refine gd 6 ?_); refine bx 6 75 #[.int .i64 0, .int .i64 0, .int .u32 0, .int .i64 0] ?_; clear HB; intro gb304 w16 hg BK304 hb GE304 HB; replace HO_4 := Aside0.mk (Kd.R_below (ro HO_4) hb); have NB293_304 := nl BK293 hg; have NB304_293 := ng BK293 hg; replace BK293 := b_ BK293 hb; clear hb hg; have hnb17 := NB304_293.out; have hnc17 := NB293_304.out; obtain ⟨z18_0, z18_1, z18_2, z18_3⟩ := ca4 BK304; obtain ⟨f18_0, f18_1, f18_2, f18_3⟩ := fa4 BK304) | ((with_reducible refine gf 37 ?_); refine gc Tryz.func37 (some 32) (spec_BitList.calls _ _ _ _ A13.out) ?_; rintro e w19 ⟨v306, rfl, ho0, hb⟩; refine ⟨_, rfl, ?_⟩; replace HO_4 := Aside0.mk (Kd.R_below (rx HO_4 BK304) hb); have HO307 := Aside0.mk (Kd.R_lower ho0 (below_size bw)); replace BK293 := b_ BK293 hb; replace BK304 := bq BK304 #[.int .i64 t299, .int .i64 t300, .int .u32 t301, .int .i64 t302] hb; replace HB := hs hb; try clear hb; (try clear ho0)))
      go_loopg [4, 9] k1 (fun kq v4 v9 w' => ∃ (x4_2 : List (S55)) (x9_2 : Int), v9 = .int .i64 x9_2 ∧ Aside0 (spec_Audit.l1 kq x4_2 x5_1 t305 x9_2 l0_0 t299 t300 t301 t302 = some (r1, r2)) ∧ Aside0 (kq ≤ k1) ∧ Aside0 (Kd.R k55 55 w' w.heap.size (fun _ => True) v4 x4_2) ∧ Aside0 (Kd.R (Kd.int .i64) 3 w' w.heap.size (fun _ => True) v306 t305) ∧ Aside0 (w'.heap[gb293]? = some (.cells #[(.slice (some ad298) l0_0.length c0_0)] 34 (0, 0))) ∧ Aside0 (w'.heap[gb304]? = some (.cells #[.int .i64 t299, .int .i64 t300, .int .u32 t301, .int .i64 t302] 75 (0, 0))) ∧ Aside0 (Below w.heap.size w w'))
      case atStart => exact ⟨(x4_1), (0), ev, H', ⟨Nat.le_refl _⟩, ⟨ro HO_4⟩, ⟨ro HO307⟩, ⟨bk BK293⟩, ⟨bk BK304⟩, ⟨bw⟩⟩
      case round =>
       clear H'
       try clear c7
       try clear c10
       try clear c10b0
       try clear c11
       try clear c11b0
       (try clear z14_0)
       (try clear z18_0 z18_1 z18_2 z18_3)
       (try clear z5_0)
       (try clear f14_0)
       (try clear f18_0 f18_1 f18_2 f18_3)
       (try clear f5_0)
       try clear hx298_0
       try clear p298
       try clear q298
       obtain ⟨x4_2, x9_2, rfl, HA, HK2, HO_4, HO_8, BK293, BK304, HB⟩ := hrel
       cases gk with
       | zero => exact absurd HA.out (by simp [spec_Audit.l1])
       | succ k2 =>
        have H := HA.out
        clear HA
        simp only [spec_Audit.l1] at H
        replace H := ilt H
        rcases H with ⟨c20b0, H⟩ | ⟨c20b0, H⟩
        ·by_cases c21 : 0 ≤ x9_2
         ·rw [if_pos c21] at H
          have c21b0 : decide (0 ≤ x9_2) = true := decide_eq_true c21
          clear c21
          replace H := bn H
          obtain ⟨t309, A22, H⟩ := H
          try dsimp only at H
          replace H := bn H
          obtain ⟨t310, A23, H⟩ := H
          try dsimp only at H
          by_cases c24 : x4_2.length < 8796093022208
          ·rw [if_pos c24] at H
           have LMc24 := Aside0.mk c24
           clear c24
           obtain ⟨y311, hy311⟩ : ∃ y_ : List (S55), y_ = (x4_2 ++ [(⟨wrap64 ((wrap64 (16 * x5_1)) + (wrap64 ((rd t305 x9_2) * t309))), t310⟩ : S55)]) := ⟨_, rfl⟩
           rw [← hy311] at H
           try with_reducible replace H := bs H
           have Ny311 := Aside0.mk hy311
           clear hy311
           have H' := Aside0.mk H
           clear H
           obtain ⟨Ao25, co25, eo25⟩ := Kd.R_slice HO_8.out
           subst eo25
           try go_wp2
           replace HO_4 := Aside0.mk (Kd.R_drew HO_4.out)
           replace HO_8 := Aside0.mk (Kd.R_drew HO_8.out)
           replace BK293 := bd BK293
           replace BK304 := bd BK304
           replace HB := hd HB
           have p308 : 0 ≤ (x9_2 : Int) := of_decide_eq_true as_
           have q308 : x9_2 < (t305.length : Int) := of_decide_eq_true as_
           obtain ⟨ad308, e308, hx308_0⟩ := Kd.at_int (Kd.R_reads' HO_8.out).2.2 x9_2 p308 q308
           cases e308
           replace p308 := eq_true p308
           replace q308 := eq_true q308
           refine st 19 (fun w' => CA w' gb304 0 [.int .i64 t299, .int .i64 t300, .int .u32 t301, .int .i64 t302] ∧ w'.cell? (ad308.add (x9_2).toNat) = some (.int .i64 (rd t305 x9_2))) [16, 17] ⟨cx BK304, hx308_0⟩ spec_Audit.tab12 spec_Audit.bits12 ?_; intro hHeld HT_ HW_
           generalize wr.drew = w26 at HO_4 HO_8 BK293 BK304 HB hx308_0 hHeld ⊢
           refine pu 0 39 (bl 19 1) ?_
           refine pu 1 40 (bl 19 3) ?_
           refine pu 2 41 (bl 19 7) ?_
           refine pu 3 42 (bl 19 15) ?_
           refine pu 4 43 (bl 19 31) ?_
           refine pu 5 44 (bl 19 63) ?_
           refine pu 7 46 (bl 19 191) ?_
           refine pu 12 51 (bl 19 4287) ?_
           refine tk 6 45 (bl 19 4351) ?_
           refine tk 8 47 (bl 19 4607) ?_
           refine tk 13 52 (bl 19 12799) ?_
           refine on_ 9 (some 48) (bl 19 13311) (fun K hK => ?_)
           refine gq Tryz.func38 (spec_ClassSize.calls _ _ _ _ A22.out) ?_
           rintro e w' ⟨rfl, ⟨nd, rfl⟩⟩
           refine ⟨_, rfl, ?_⟩
           refine hK.out _ _ ⟨cx BK304, hHeld.2⟩ (fun hHeld => ?_)
           clear hK K
           refine nm ?_
           refine pu 10 49 (bl 19 14335) ?_
           refine pu 11 50 (bl 19 16383) ?_
           refine on_ 14 (some 53) (bl 19 32767) (fun K hK => ?_)
           refine gq Tryz.func38 (spec_ClassSize.calls _ _ _ _ A23.out) ?_
           rintro e w' ⟨rfl, ⟨nd, rfl⟩⟩
           refine ⟨_, rfl, ?_⟩
           refine hK.out _ _ ⟨cx BK304, hHeld.2⟩ (fun hHeld => ?_)
           clear hK K
           refine nm ?_
           refine pu 15 54 (bl 19 65535) ?_
           refine last_ (i := 16) (N := some 55) (bl 19 131071) rfl rfl (one_of HT_.out kr) (by decide) (fun K hK => ?_)
           refine value_ (w1 := ?_) (v := ?_) (by rfl) rfl ?_ ?_
           rotate_left 2
           ·go_simp
            constructor
            ·rfl
            ·rfl
           refine hK.out _ _ ?_
           clear hK K
           refine nm ?_
           refine last_ (i := 17) (N := some 56) (bl 19 262143) rfl rfl (one_of HT_.out kr) (by decide) (fun K hK => ?_)
           refine Kd.R_append_step k55 (w0 := w) w.heap.size (by rfl) (.tmp 39) (.tmp 55) 50 55 (.agg #[(.int .i64 0), (.int .i64 0)]) 16 rfl Tryz.underlying50 info55 rfl (by decide) (by omega) u4 x4_2 (⟨wrap64 ((wrap64 (16 * x5_1)) + (wrap64 ((rd t305 x9_2) * t309))), t310⟩ : S55) [.int .i64 (wrap64 ((wrap64 (16 * x5_1)) + (wrap64 ((rd t305 x9_2) * t309)))), .int .i64 t310] (fun _ => True) (fun _ => False) rfl rfl ?aP (fun _ hk => hk.elim) ?aF ?aO ?aB ?aS ?aL ?_
           (case aP => exact k55_mkM _ _ _ (⟨wrap64 ((wrap64 (16 * x5_1)) + (wrap64 ((rd t305 x9_2) * t309))), t310⟩ : S55))
           (case aB => exact bw)
           (case aF => exact (fun _ _ => trivial))
           (case aO => exact (ro HO_4))
           (case aS => exact (below_size bw))
           (case aL => have := LMc24.out; omega)
           intro v312 w27 ho hb hg hat
           rw [← Ny311.out] at ho
           replace HO_8 := Aside0.mk (Kd.R_over' (ro HO_8) (Kd.R_typed (ro HO_4)) (by decide) hg)
           replace BK293 := bg BK293 hg (Kd.R_ne HO_4.out BK293.out (by decide))
           replace BK304 := bg BK304 hg (Kd.R_ne HO_4.out BK304.out (by decide))
           have HO313 := Aside0.mk (ho)
           replace HB := Aside0.mk (hb)
           clear HO_4
           clear ho hb hg hat
           refine hK.out _ _ ?_
           clear hK K
           refine nm ?_
           refine pu 18 4 (bl 19 524287) ?_
           refine dn ?_ _
           try go_wp2
           go_roundg k2
           case measure => have := HK1.out; have := HK2.out; omega
           case rel => exact ⟨(y311), (wrap64 (x9_2 + 1)), ev, H', ⟨by have := HK1.out; have := HK2.out; omega⟩, ⟨ro HO313⟩, ⟨ro HO_8⟩, ⟨bk BK293⟩, ⟨bk BK304⟩, ⟨bw⟩⟩
          ·rw [if_neg c24] at H
           exact absurd H (by simp)
         ·rw [if_neg c21] at H
          exact absurd H (by simp)
        ·replace H := ieq H
         rcases H with ⟨c28b0, c28b1, H⟩ | ⟨c28, c28b0, c28b1, H⟩
         ·by_cases c29 : x4_2.length < 8796093022208
          ·rw [if_pos c29] at H
           have LMc29 := Aside0.mk c29
           clear c29
           obtain ⟨y314, hy314⟩ : ∃ y_ : List (S55), y_ = (x4_2 ++ [(⟨wrap64 (16 * x5_1), wrap64 (16 * t302)⟩ : S55)]) := ⟨_, rfl⟩
           rw [← hy314] at H
           try with_reducible replace H := bs H
           have Ny314 := Aside0.mk hy314
           clear hy314
           have H' := Aside0.mk H
           clear H
           obtain ⟨Ao30, co30, eo30⟩ := Kd.R_slice HO_8.out
           subst eo30
           have hnb31 := NB304_293.out
           have hnc31 := NB293_304.out
           obtain ⟨z32_0, z32_1, z32_2, z32_3⟩ := ca4 BK304
           obtain ⟨f32_0, f32_1, f32_2, f32_3⟩ := fa4 BK304
           go_wp2_with (first | ((with_reducible refine gate_builtin (b := .append) (xs := #[.tmp 60, .tmp 67]) rfl ?_); at_builtin; refine Kd.R_append k55 (w0 := w) w.heap.size rfl (.tmp 60) (.tmp 67) 50 55 (.agg #[(.int .i64 0), (.int .i64 0)]) 16 rfl Tryz.underlying50 info55 rfl (by decide) (by omega) u4 x4_2 (⟨wrap64 (16 * x5_1), wrap64 (16 * t302)⟩ : S55) [.int .i64 (wrap64 (16 * x5_1)), .int .i64 (wrap64 (16 * t302))] (fun _ => True) (fun _ => False) rfl rfl ?aP (fun _ hk => hk.elim) ?aF ?aO ?aB ?aS ?aL ?_; (case aP => exact k55_mkM _ _ _ (⟨wrap64 (16 * x5_1), wrap64 (16 * t302)⟩ : S55)); (case aB => exact bw); (case aF => exact (fun _ _ => trivial)); (case aO => exact (ro HO_4)); (case aS => exact (below_size bw)); (case aL => have := LMc29.out; omega); intro v315 w33 ho hb hg hat; rw [← Ny314.out] at ho; replace HO_8 := Aside0.mk (Kd.R_over' (ro HO_8) (Kd.R_typed (ro HO_4)) (by decide) hg); replace BK293 := bg BK293 hg (Kd.R_ne HO_4.out BK293.out (by decide)); replace BK304 := bg BK304 hg (Kd.R_ne HO_4.out BK304.out (by decide)); have HO316 := Aside0.mk (ho); replace HB := Aside0.mk (hb); clear HO_4; clear ho hb hg hat))
           go_roundg k2
           case measure => have := HK1.out; have := HK2.out; omega
           case rel => exact ⟨(y314), (wrap64 (x5_1 + 1)), ev, H', ⟨by have := HK1.out; have := HK2.out; omega⟩, ⟨ro HO316⟩, ⟨bk BK293⟩, ⟨bw⟩⟩
          ·rw [if_neg c29] at H
           exact absurd H (by simp)
         ·have H' := Aside0.mk H
          clear H
          obtain ⟨Ao34, co34, eo34⟩ := Kd.R_slice HO_8.out
          subst eo34
          have hnb35 := NB304_293.out
          have hnc35 := NB293_304.out
          obtain ⟨z36_0, z36_1, z36_2, z36_3⟩ := ca4 BK304
          obtain ⟨f36_0, f36_1, f36_2, f36_3⟩ := fa4 BK304
          go_wp2
          go_roundg k2
          case measure => have := HK1.out; have := HK2.out; omega
          case rel => exact ⟨(x4_2), (wrap64 (x5_1 + 1)), ev, H', ⟨by have := HK1.out; have := HK2.out; omega⟩, ⟨ro HO_4⟩, ⟨bk BK293⟩, ⟨bw⟩⟩
     ·rw [if_neg c11] at H
      exact absurd H (by simp)
    ·simp only [Option.some.injEq, Prod.mk.injEq] at H
     obtain ⟨rfl, rfl⟩ := H
     have z37_0 := ca1 BK293
     have f37_0 := blk_frozen BK293.out 0
     go_wp2
     go_ret2
     exact ⟨_, rt, ro HO_4, bw⟩
 ·(try simp only [Bool.not_true, Bool.not_false])
  simp only [Option.some.injEq, Prod.mk.injEq] at H
  obtain ⟨rfl, rfl⟩ := H
  go_wp2
  go_ret2
  exact ⟨_, rt, by first | exact Kd.R_nil _ _ _ _ _ | exact Kd.N_nil _ _ _ _ _ | exact Kd.V_nil _ _ _ _ _ | exact Kd.Q_nil _ _ _ _ _ | exact Kd.S_nil _ _ _ _ _, bw⟩

/-! ### spec_l07Row: function 17 -/
def spec_l07Row.l0 : Nat → Int → List Int → Int → Option (List Int)
 | 0, _, _, _ => none
 | k + 1, x0, x3, x4 => if x4 < 8 then (if x3.length < 17592186044416 then (spec_l07Row.l0 k x0 (x3 ++ [x0]) (wrap64 (x4 + 1))) else (none)) else (some x3)
def spec_l07Row.f (k : Nat) (a0 : Int) : Option (List Int) := spec_l07Row.l0 k a0 (([] : List Int)) 0
theorem spec_l07Row.mono_l : ∀ k, (∀ y0 y1 y2, LeO (spec_l07Row.l0 k y0 y1 y2) (spec_l07Row.l0 (k + 1) y0 y1 y2))
 | 0 => fun _ _ _ r h => by simp [spec_l07Row.l0] at h
 | k + 1 => by
  have ih0 := spec_l07Row.mono_l k
  ·intro y0 y1 y2
   unfold spec_l07Row.l0
   repeat' first
    | (with_reducible first | exact ih0 .. | exact LeO.refl _ | exact LeO.none _ | refine LeO.ite ?_ ?_ | refine LeO.bind ?_ (fun _ => ?_))
    | exact LeO.none _ | refine LeO.ite ?_ ?_ | refine LeO.bind ?_ (fun _ => ?_)
theorem spec_l07Row.mono : ∀ a0 k, LeO (spec_l07Row.f k a0) (spec_l07Row.f (k + 1) a0) := by
 intro a0 k
 have ih0 := spec_l07Row.mono_l k
 unfold spec_l07Row.f
 repeat' first
  | (with_reducible first | exact ih0 .. | exact LeO.refl _ | exact LeO.none _ | refine LeO.ite ?_ ?_ | refine LeO.bind ?_ (fun _ => ?_))
  | exact LeO.none _ | refine LeO.ite ?_ ?_ | refine LeO.bind ?_ (fun _ => ?_)
set_option maxHeartbeats 2000000 in
set_option maxRecDepth 100000 in
theorem spec_l07Row.calls (k : Nat) (a0 : Int) (r : List Int) (w : World) (h : spec_l07Row.f k a0 = some r) :
  Calls Tryz.prog 17 #[.int .i64 a0] w fun e w' => ∃ v0_ : Value, e = .returned (v0_) ∧ Kd.R (Kd.int .i64) 3 w' w.heap.size (fun _ => True) v0_ r ∧ Below w.heap.size w w' := by
 have HB := Aside0.mk (Below.refl w.heap.size w)
 unfold spec_l07Row.f at h
 have H := h
 clear h
 obtain ⟨y317, hy317⟩ : ∃ y_ : List Int, y_ = (([] : List Int)) := ⟨_, rfl⟩
 rw [← hy317] at H
 try with_reducible replace H := bs H
 have Ny317 := Aside0.mk hy317
 clear hy317
 have H' := Aside0.mk H
 clear H
 go_enter Tryz.func17, Tryz.ntmps17
 go_wp2_with (first | ((with_reducible refine gate_dst (N := 5) rfl ?_); refine Kd.R_lit (Kd.int .i64) _ 3 ?hg (N := 5) ?hd (xs := ([] : List Int)) (inner := []) (ok := fun _ => True) (okp := fun _ => True) ?hr ?hp (fun _ hk => hk) trivial (Below.refl _ _) (Nat.le_refl _) (by simp) ?_; (case hd => rfl); (case hg => rfl); (case hr => first | (go_simp; done) | (go_simp; rfl)); (case hp => exact (Reps.none _ _)); intro v318 w2 ho3 hb hg_ hnew_; clear hg_ hnew_; (first | rw [← Ny317.out] at ho3 | (simp only [Int.reduceToNat] at ho3; rw [← Ny317.out] at ho3)); have HO319 := Aside0.mk (Kd.R_lower ho3 (below_size bw)); replace HB := hs hb; clear hb ho3))
 go_loopg [3, 4] k (fun kq v3 v4 w' => ∃ (x3_1 : List Int) (x4_1 : Int), v4 = .int .i64 x4_1 ∧ Aside0 (spec_l07Row.l0 kq a0 x3_1 x4_1 = some r) ∧ Aside0 (kq ≤ k) ∧ Aside0 (Kd.R (Kd.int .i64) 3 w' w.heap.size (fun _ => True) v3 x3_1) ∧ Aside0 (Below w.heap.size w w'))
 case atStart => exact ⟨(y317), (0), ev, H', ⟨Nat.le_refl _⟩, ⟨ro HO319⟩, ⟨bw⟩⟩
 case round =>
  clear H'
  obtain ⟨x3_1, x4_1, rfl, HA, HK1, HO_3, HB⟩ := hrel
  cases gk with
  | zero => exact absurd HA.out (by simp [spec_l07Row.l0])
  | succ k1 =>
   have H := HA.out
   clear HA
   simp only [spec_l07Row.l0] at H
   replace H := ilt H
   rcases H with ⟨c4b0, H⟩ | ⟨c4b0, H⟩
   ·by_cases c5 : x3_1.length < 17592186044416
    ·rw [if_pos c5] at H
     have LMc5 := Aside0.mk c5
     clear c5
     obtain ⟨y320, hy320⟩ : ∃ y_ : List Int, y_ = (x3_1 ++ [a0]) := ⟨_, rfl⟩
     rw [← hy320] at H
     try with_reducible replace H := bs H
     have Ny320 := Aside0.mk hy320
     clear hy320
     have H' := Aside0.mk H
     clear H
     go_wp2_with (first | ((with_reducible refine gate_builtin (b := .append) (xs := #[.tmp 10, .tmp 12]) rfl ?_); at_builtin; refine Kd.R_append (Kd.int .i64) (w0 := w) w.heap.size rfl (.tmp 10) (.tmp 12) 29 3 (.int .i64 0) 8 rfl Tryz.underlying29 info3 rfl (by decide) (by omega) u3 x3_1 a0 [.int .i64 a0] (fun _ => True) (fun _ => False) rfl rfl ?aP (fun _ hk => hk.elim) ?aF ?aO ?aB ?aS ?aL ?_; (case aP => exact rfl); (case aB => exact bw); (case aF => exact (fun _ _ => trivial)); (case aO => exact (ro HO_3)); (case aS => exact (below_size bw)); (case aL => have := LMc5.out; omega); intro v321 w6 ho hb hg hat; rw [← Ny320.out] at ho; have HO322 := Aside0.mk (ho); replace HB := Aside0.mk (hb); clear HO_3; clear ho hb hg hat))
     go_roundg k1
     case measure => have := HK1.out; omega
     case rel => exact ⟨(y320), (wrap64 (x4_1 + 1)), ev, H', ⟨oa HK1⟩, ⟨ro HO322⟩, ⟨bw⟩⟩
    ·rw [if_neg c5] at H
     exact absurd H (by simp)
   ·obtain rfl := Option.some.inj H
    go_wp2
    go_ret
    exact ⟨_, rt, ro HO_3, bw⟩

end Go.Proofs.YtobboonnfocalaaGreatDoor.PG1
