/- What functions of the program compute, each as a Lean function, and that the run comes to just that. Conditions: none. -/
import Derived.Test.YtfhcnnkeokjfpaaGreatDoorTO1
import Derived.Test.YtfhcnnkeokjfpaaGreatDoorT2O1
import Derived.Test.YtfhcnnkeokjfpaaGreatDoorPO1x0
namespace Go.Proofs.YtfhcnnkeokjfpaaGreatDoor.PO1
open Go.RowKit Go.Proofs.YtfhcnnkeokjfpaaGreatDoorW.PrintWords Go.Proofs.YtfhcnnkeokjfpaaGreatDoorW.PrintLast Go.Proofs.YtfhcnnkeokjfpaaGreatDoorW.PrintMore Go.Proofs.YtfhcnnkeokjfpaaGreatDoor.T
attribute [local go_sem] max2_int min2_int max_two min_two max_three min_three max_four min_four   -- for this text's walks alone
set_option linter.unusedVariables false
set_option linter.unusedSimpArgs false

/-! ### laws_szUint32S: function 24 -/
def laws_szUint32S.f (l0 : List Int) (a1 : Int) : Option (Int) := if (wrap64 (a1 - (l0.length : Int))) < 0 then (some (-1)) else (some (wrap64 (a1 - (l0.length : Int))))
set_option maxHeartbeats 8000000 in
set_option maxRecDepth 100000 in
theorem laws_szUint32S.calls (A0 : Option Addr) (c0 : Nat) (l0 : List Int) (a1 : Int) (r : Int) (w : World) (hr0 : Kd.C (Kd.int .u32) w A0 l0.length l0) (hc0 : l0.length ≤ c0) (h : laws_szUint32S.f l0 a1 = some r) :
  Calls Tryz.prog 24 #[.slice A0 l0.length c0, .int .i64 a1] w fun e w' => e = .returned (.int .i64 r) ∧ Drawn0 w w' := by
 have HR0 := Aside0.mk hr0
 have HC0 := Aside0.mk hc0
 clear hr0 hc0
 unfold laws_szUint32S.f at h
 have H := h
 clear h
 replace H := ilt H
 rcases H with ⟨c3b0, H⟩ | ⟨c3b0, H⟩
 ·obtain rfl := Option.some.inj H
  go_enter Tryz.func24, Tryz.ntmps24
  go_wp2
  go_ret
  exact ⟨ev, dr⟩
 ·obtain rfl := Option.some.inj H
  go_enter Tryz.func24, Tryz.ntmps24
  go_wp2
  go_ret
  exact ⟨ev, dr⟩

/-! ### laws_szMem: function 13 -/
def laws_szMem.f (l0_0 : List Int) (a1 : Int) : Option (Int) := (laws_szUint32S.f l0_0 a1).bind fun t102 => (if t102 < 0 then (some (-1)) else (some t102))
set_option maxHeartbeats 8000000 in
set_option maxRecDepth 100000 in
theorem laws_szMem.calls (A0_0 : Option Addr) (c0_0 : Nat) (l0_0 : List Int) (a1 : Int) (r : Int) (w : World) (hr0_0 : Kd.C (Kd.int .u32) w A0_0 l0_0.length l0_0) (hc0_0 : l0_0.length ≤ c0_0) (h : laws_szMem.f l0_0 a1 = some r) :
  Calls Tryz.prog 13 #[.agg #[.slice A0_0 l0_0.length c0_0], .int .i64 a1] w fun e w' => e = .returned (.int .i64 r) ∧ Below w.heap.size w w' := by
 have hu24 := Tryz.underlying24
 have HR0_0 := Aside0.mk hr0_0
 have HC0_0 := Aside0.mk hc0_0
 clear hr0_0 hc0_0
 have HB := Aside0.mk (Below.refl w.heap.size w)
 unfold laws_szMem.f at h
 have H := h
 clear h
 replace H := bn H
 obtain ⟨t102, A3, H⟩ := H
 try dsimp only at H
 have HU4 := Aside0.mk H
 clear H
 go_enter Tryz.func13, Tryz.ntmps13
 go_upto_if 10 with (first | ((with_reducible refine gd 2 ?_); refine bx 2 24 #[.slice A0_0 l0_0.length c0_0] ?_; clear HB; intro gb101 w5 hg BK101 hb GE101 HB; clear hb hg; have z6_0 := ca1 BK101; have f6_0 := blk_frozen BK101.out 0) | ((with_reducible refine gf 24 ?_); refine gc Tryz.func24 (some 8) (laws_szUint32S.calls A0_0 c0_0 _ _ _ _ (cb HR0_0) HC0_0.out A3.out) ?_; rintro e w' ⟨rfl, ⟨nd, rfl⟩⟩; refine ⟨_, rfl, ?_⟩))
 (try refine ap ?_)
 have H := HU4.out
 clear HU4
 replace H := ilt H
 rcases H with ⟨c7b0, H⟩ | ⟨c7b0, H⟩
 ·(first | rw [c7b0] | (simp only [i64_w, i32_w]; rw [c7b0]) | (simp only [c7b2, Bool.not_true, Bool.not_false]) | (simp only [c7b1, Bool.not_true, Bool.not_false]) | skip)
  obtain rfl := Option.some.inj H
  go_wp2
  go_ret
  exact ⟨rt, bw⟩
 ·(first | rw [c7b0] | (simp only [i64_w, i32_w]; rw [c7b0]) | (simp only [c7b2, Bool.not_true, Bool.not_false]) | (simp only [c7b1, Bool.not_true, Bool.not_false]) | skip)
  obtain rfl := Option.some.inj H
  go_wp2
  go_ret
  exact ⟨rt, bw⟩

/-! ### laws_szIntS: function 43 -/
def laws_szIntS.f (l0 : List Int) (a1 : Int) : Option (Int) := if (wrap64 (a1 - (l0.length : Int))) < 0 then (some (-1)) else (some (wrap64 (a1 - (l0.length : Int))))
set_option maxHeartbeats 8000000 in
set_option maxRecDepth 100000 in
theorem laws_szIntS.calls (A0 : Option Addr) (c0 : Nat) (l0 : List Int) (a1 : Int) (r : Int) (w : World) (hr0 : Kd.C (Kd.int .i64) w A0 l0.length l0) (hc0 : l0.length ≤ c0) (h : laws_szIntS.f l0 a1 = some r) :
  Calls Tryz.prog 43 #[.slice A0 l0.length c0, .int .i64 a1] w fun e w' => e = .returned (.int .i64 r) ∧ Drawn0 w w' := by
 have HR0 := Aside0.mk hr0
 have HC0 := Aside0.mk hc0
 clear hr0 hc0
 unfold laws_szIntS.f at h
 have H := h
 clear h
 replace H := ilt H
 rcases H with ⟨c3b0, H⟩ | ⟨c3b0, H⟩
 ·obtain rfl := Option.some.inj H
  go_enter Tryz.func43, Tryz.ntmps43
  go_wp2
  go_ret
  exact ⟨ev, dr⟩
 ·obtain rfl := Option.some.inj H
  go_enter Tryz.func43, Tryz.ntmps43
  go_wp2
  go_ret
  exact ⟨ev, dr⟩

/-! ### laws_szWarp: function 25 -/
def laws_szWarp.f (a0_0 : Int) (l0_1 : List Int) (l0_2 : List Int) (a0_3 : Int) (a0_4 : Int) (a0_5 : Int) (a0_6 : Int) (a0_7 : Int) (a1 : Int) : Option (Int) := (laws_szIntS.f l0_1 a1).bind fun t104 => (if t104 < 0 then (some (-1)) else ((laws_szIntS.f l0_2 t104).bind fun t105 => (if t105 < 0 then (some (-1)) else (some t105))))
set_option maxHeartbeats 8000000 in
set_option maxRecDepth 100000 in
theorem laws_szWarp.calls (a0_0 : Int) (A0_1 : Option Addr) (c0_1 : Nat) (l0_1 : List Int) (A0_2 : Option Addr) (c0_2 : Nat) (l0_2 : List Int) (a0_3 : Int) (a0_4 : Int) (a0_5 : Int) (a0_6 : Int) (a0_7 : Int) (a1 : Int) (r : Int) (w : World) (hr0_1 : Kd.C (Kd.int .i64) w A0_1 l0_1.length l0_1) (hc0_1 : l0_1.length ≤ c0_1) (hr0_2 : Kd.C (Kd.int .i64) w A0_2 l0_2.length l0_2) (hc0_2 : l0_2.length ≤ c0_2) (h : laws_szWarp.f a0_0 l0_1 l0_2 a0_3 a0_4 a0_5 a0_6 a0_7 a1 = some r) :
  Calls Tryz.prog 25 #[.agg #[.int .i64 a0_0, .slice A0_1 l0_1.length c0_1, .slice A0_2 l0_2.length c0_2, .int .u32 a0_3, .int .i64 a0_4, .int .i64 a0_5, .int .i64 a0_6, .int .u32 a0_7], .int .i64 a1] w fun e w' => e = .returned (.int .i64 r) ∧ Below w.heap.size w w' := by
 have hu56 := Tryz.underlying56
 have HR0_1 := Aside0.mk hr0_1
 have HC0_1 := Aside0.mk hc0_1
 clear hr0_1 hc0_1
 have HR0_2 := Aside0.mk hr0_2
 have HC0_2 := Aside0.mk hc0_2
 clear hr0_2 hc0_2
 have HB := Aside0.mk (Below.refl w.heap.size w)
 unfold laws_szWarp.f at h
 have H := h
 clear h
 replace H := bn H
 obtain ⟨t104, A3, H⟩ := H
 try dsimp only at H
 have HU4 := Aside0.mk H
 clear H
 go_enter Tryz.func25, Tryz.ntmps25
 go_upto_if 10 with (first | ((with_reducible refine gd 2 ?_); refine bx 2 56 #[.int .i64 a0_0, .slice A0_1 l0_1.length c0_1, .slice A0_2 l0_2.length c0_2, .int .u32 a0_3, .int .i64 a0_4, .int .i64 a0_5, .int .i64 a0_6, .int .u32 a0_7] ?_; clear HB; intro gb103 w5 hg BK103 hb GE103 HB; clear hb hg; obtain ⟨z6_0, z6_1, z6_2, z6_3, z6_4, z6_5, z6_6, z6_7⟩ := ca8 BK103; obtain ⟨f6_0, f6_1, f6_2, f6_3, f6_4, f6_5, f6_6, f6_7⟩ := fa8 BK103) | ((with_reducible refine gf 43 ?_); refine gc Tryz.func43 (some 8) (laws_szIntS.calls A0_1 c0_1 _ _ _ _ (cb HR0_1) HC0_1.out A3.out) ?_; rintro e w' ⟨rfl, ⟨nd, rfl⟩⟩; refine ⟨_, rfl, ?_⟩))
 (try refine ap ?_)
 have H := HU4.out
 clear HU4
 replace H := ilt H
 rcases H with ⟨c7b0, H⟩ | ⟨c7b0, H⟩
 ·(first | rw [c7b0] | (simp only [i64_w, i32_w]; rw [c7b0]) | (simp only [c7b2, Bool.not_true, Bool.not_false]) | (simp only [c7b1, Bool.not_true, Bool.not_false]) | skip)
  obtain rfl := Option.some.inj H
  go_wp2
  go_ret
  exact ⟨rt, bw⟩
 ·(first | rw [c7b0] | (simp only [i64_w, i32_w]; rw [c7b0]) | (simp only [c7b2, Bool.not_true, Bool.not_false]) | (simp only [c7b1, Bool.not_true, Bool.not_false]) | skip)
  replace H := bn H
  obtain ⟨t105, A8, H⟩ := H
  try dsimp only at H
  have HU9 := Aside0.mk H
  clear H
  obtain ⟨z10_0, z10_1, z10_2, z10_3, z10_4, z10_5, z10_6, z10_7⟩ := ca8 BK103
  obtain ⟨f10_0, f10_1, f10_2, f10_3, f10_4, f10_5, f10_6, f10_7⟩ := fa8 BK103
  go_upto_if 16 with (first | ((with_reducible refine gf 43 ?_); refine gc Tryz.func43 (some 14) (laws_szIntS.calls A0_2 c0_2 _ _ _ _ (cb HR0_2) HC0_2.out A8.out) ?_; rintro e w' ⟨rfl, ⟨nd, rfl⟩⟩; refine ⟨_, rfl, ?_⟩))
  (try refine ap ?_)
  have H := HU9.out
  clear HU9
  replace H := ilt H
  rcases H with ⟨c11b0, H⟩ | ⟨c11b0, H⟩
  ·(first | rw [c11b0] | (simp only [i64_w, i32_w]; rw [c11b0]) | (simp only [c11b2, Bool.not_true, Bool.not_false]) | (simp only [c11b1, Bool.not_true, Bool.not_false]) | skip)
   obtain rfl := Option.some.inj H
   go_wp2
   go_ret
   exact ⟨rt, bw⟩
  ·(first | rw [c11b0] | (simp only [i64_w, i32_w]; rw [c11b0]) | (simp only [c11b2, Bool.not_true, Bool.not_false]) | (simp only [c11b1, Bool.not_true, Bool.not_false]) | skip)
   obtain rfl := Option.some.inj H
   go_wp2
   go_ret
   exact ⟨rt, bw⟩

/-! ### laws_szWarpS: function 14 -/
def laws_szWarpS.l0 : Nat → List (S56) → Int → Int → Option (Int)
 | 0, _, _, _ => none
 | k + 1, x0, x1, x5 => if x5 < (x0.length : Int) then (if 0 ≤ x5 then ((laws_szWarp.f ((rd_T56 x0 x5).f0) ((rd_T56 x0 x5).f1) ((rd_T56 x0 x5).f2) ((rd_T56 x0 x5).f3) ((rd_T56 x0 x5).f4) ((rd_T56 x0 x5).f5) ((rd_T56 x0 x5).f6) ((rd_T56 x0 x5).f7) x1).bind fun t107 => (if t107 < 0 then (some (-1)) else (laws_szWarpS.l0 k x0 t107 (wrap64 (x5 + 1))))) else (none)) else (some x1)
def laws_szWarpS.f (k : Nat) (l0 : List (S56)) (a1 : Int) : Option (Int) := if (wrap64 (a1 - (l0.length : Int))) < 0 then (some (-1)) else (laws_szWarpS.l0 k l0 (wrap64 (a1 - (l0.length : Int))) 0)
theorem laws_szWarpS.mono_l : ∀ k, (∀ y0 y1 y2, LeO (laws_szWarpS.l0 k y0 y1 y2) (laws_szWarpS.l0 (k + 1) y0 y1 y2))
 | 0 => fun _ _ _ r h => by simp [laws_szWarpS.l0] at h
 | k + 1 => by
  have ih0 := laws_szWarpS.mono_l k
  ·intro y0 y1 y2
   unfold laws_szWarpS.l0
   repeat' first
    | (with_reducible first | exact ih0 .. | exact LeO.refl _ | exact LeO.none _ | refine LeO.ite ?_ ?_ | refine LeO.bind ?_ (fun _ => ?_))
    | exact LeO.none _ | refine LeO.ite ?_ ?_ | refine LeO.bind ?_ (fun _ => ?_)
theorem laws_szWarpS.mono : ∀ a0 a1 k, LeO (laws_szWarpS.f k a0 a1) (laws_szWarpS.f (k + 1) a0 a1) := by
 intro a0 a1 k
 have ih0 := laws_szWarpS.mono_l k
 unfold laws_szWarpS.f
 repeat' first
  | (with_reducible first | exact ih0 .. | exact LeO.refl _ | exact LeO.none _ | refine LeO.ite ?_ ?_ | refine LeO.bind ?_ (fun _ => ?_))
  | exact LeO.none _ | refine LeO.ite ?_ ?_ | refine LeO.bind ?_ (fun _ => ?_)
set_option maxHeartbeats 8000000 in
set_option maxRecDepth 100000 in
theorem laws_szWarpS.calls (k : Nat) (A0 : Option Addr) (c0 : Nat) (l0 : List (S56)) (a1 : Int) (r : Int) (w : World) (hr0 : Kd.C k56 w A0 l0.length l0) (hc0 : l0.length ≤ c0) (h : laws_szWarpS.f k l0 a1 = some r) :
  Calls Tryz.prog 14 #[.slice A0 l0.length c0, .int .i64 a1] w fun e w' => e = .returned (.int .i64 r) ∧ Below w.heap.size w w' := by
 have hu56 := Tryz.underlying56
 have HR0 := Aside0.mk hr0
 have HC0 := Aside0.mk hc0
 clear hr0 hc0
 have HB := Aside0.mk (Below.refl w.heap.size w)
 unfold laws_szWarpS.f at h
 have H := h
 clear h
 replace H := ilt H
 rcases H with ⟨c3b0, H⟩ | ⟨c3b0, H⟩
 ·obtain rfl := Option.some.inj H
  go_enter Tryz.func14, Tryz.ntmps14
  go_wp2
  go_ret
  exact ⟨rt, bw⟩
 ·have H' := Aside0.mk H
  clear H
  go_enter Tryz.func14, Tryz.ntmps14
  go_wp2
  go_loopg [1, 5] k (fun kq v1 v5 w' => ∃ (x1_1 : Int) (x5_1 : Int), v1 = .int .i64 x1_1 ∧ v5 = .int .i64 x5_1 ∧ Aside0 (laws_szWarpS.l0 kq l0 x1_1 x5_1 = some r) ∧ Aside0 (kq ≤ k) ∧ Aside0 (Below w.heap.size w w'))
  case atStart => exact ⟨(wrap64 (a1 - (l0.length : Int))), (0), ev, ev, H', ⟨Nat.le_refl _⟩, ⟨bw⟩⟩
  case round =>
   clear H'
   try clear c3
   try clear c3b0
   obtain ⟨x1_1, x5_1, rfl, rfl, HA, HK1, HB⟩ := hrel
   cases gk with
   | zero => exact absurd HA.out (by simp [laws_szWarpS.l0])
   | succ k1 =>
    have H := HA.out
    clear HA
    simp only [laws_szWarpS.l0] at H
    replace H := ilt H
    rcases H with ⟨c4b0, H⟩ | ⟨c4b0, H⟩
    ·by_cases c5 : 0 ≤ x5_1
     ·rw [if_pos c5] at H
      have c5b0 : decide (0 ≤ x5_1) = true := decide_eq_true c5
      clear c5
      replace H := bn H
      obtain ⟨t107, A6, H⟩ := H
      try dsimp only at H
      have HU7 := Aside0.mk H
      clear H
      have p106 : 0 ≤ (x5_1 : Int) := of_decide_eq_true as_
      have q106 : x5_1 < (l0.length : Int) := of_decide_eq_true as_
      obtain ⟨ad106, A106_1, c106_1, A106_2, c106_2, e106, hx106_0, hx106_1, hx106_2, hx106_3, hx106_4, hx106_5, hx106_6, hx106_7, hl106_1, hi106_1, hl106_2, hi106_2⟩ := at_T56 HR0.out x5_1 p106 q106
      cases e106
      replace hx106_0 := cl HB hx106_0
      replace hx106_1 := cl HB hx106_1
      replace hx106_2 := cl HB hx106_2
      replace hx106_3 := cl HB hx106_3
      replace hx106_4 := cl HB hx106_4
      replace hx106_5 := cl HB hx106_5
      replace hx106_6 := cl HB hx106_6
      replace hx106_7 := cl HB hx106_7
      have HR106_1 := Aside0.mk hi106_1
      have HC106_1 := Aside0.mk hl106_1
      clear hi106_1 hl106_1
      have HR106_2 := Aside0.mk hi106_2
      have HC106_2 := Aside0.mk hl106_2
      clear hi106_2 hl106_2
      replace p106 := eq_true p106
      replace q106 := eq_true q106
      go_upto_if 25 with (first | ((with_reducible refine gf 25 ?_); refine gc Tryz.func25 (some 23) (laws_szWarp.calls _ A106_1 c106_1 _ A106_2 c106_2 _ _ _ _ _ _ _ _ _ (cb HR106_1) HC106_1.out (cb HR106_2) HC106_2.out A6.out) ?_; rintro e w8 ⟨rfl, hb⟩; refine ⟨_, rfl, ?_⟩; replace HB := hs hb; try clear hb))
      (try refine ap ?_)
      have H := HU7.out
      clear HU7
      replace H := ilt H
      rcases H with ⟨c9b0, H⟩ | ⟨c9b0, H⟩
      ·(first | rw [c9b0] | (simp only [i64_w, i32_w]; rw [c9b0]) | (simp only [c9b2, Bool.not_true, Bool.not_false]) | (simp only [c9b1, Bool.not_true, Bool.not_false]) | skip)
       obtain rfl := Option.some.inj H
       go_wp2
       go_ret
       exact ⟨rt, bw⟩
      ·(first | rw [c9b0] | (simp only [i64_w, i32_w]; rw [c9b0]) | (simp only [c9b2, Bool.not_true, Bool.not_false]) | (simp only [c9b1, Bool.not_true, Bool.not_false]) | skip)
       have H' := Aside0.mk H
       clear H
       go_wp2
       go_roundg k1
       case measure => have := HK1.out; omega
       case rel => exact ⟨(t107), (wrap64 (x5_1 + 1)), ev, ev, H', ⟨oa HK1⟩, ⟨bw⟩⟩
     ·rw [if_neg c5] at H
      exact absurd H (by simp)
    ·obtain rfl := Option.some.inj H
     go_wp2
     go_ret
     exact ⟨rt, bw⟩

/-! ### laws_szMach: function 4 -/
def laws_szMach.f (k : Nat) (l0_0 : List Int) (l0_1 : List (S56)) (a1 : Int) : Option (Int) := (laws_szMem.f l0_0 a1).bind fun t109 => (if t109 < 0 then (some (-1)) else ((laws_szWarpS.f k l0_1 t109).bind fun t110 => (if t110 < 0 then (some (-1)) else (some t110))))
theorem laws_szMach.mono : ∀ a0 a1 a2 k, LeO (laws_szMach.f k a0 a1 a2) (laws_szMach.f (k + 1) a0 a1 a2) := by
 intro a0 a1 a2 k
 unfold laws_szMach.f
 repeat' first
  | (with_reducible first | exact laws_szWarpS.mono .. | exact LeO.refl _ | exact LeO.none _ | refine LeO.ite ?_ ?_ | refine LeO.bind ?_ (fun _ => ?_))
  | exact LeO.none _ | refine LeO.ite ?_ ?_ | refine LeO.bind ?_ (fun _ => ?_)
set_option maxHeartbeats 8000000 in
set_option maxRecDepth 100000 in
theorem laws_szMach.calls (k : Nat) (A0_0 : Option Addr) (c0_0 : Nat) (l0_0 : List Int) (A0_1 : Option Addr) (c0_1 : Nat) (l0_1 : List (S56)) (a1 : Int) (r : Int) (w : World) (hr0_0 : Kd.C (Kd.int .u32) w A0_0 l0_0.length l0_0) (hc0_0 : l0_0.length ≤ c0_0) (hr0_1 : Kd.C k56 w A0_1 l0_1.length l0_1) (hc0_1 : l0_1.length ≤ c0_1) (h : laws_szMach.f k l0_0 l0_1 a1 = some r) :
  Calls Tryz.prog 4 #[.agg #[.slice A0_0 l0_0.length c0_0, .slice A0_1 l0_1.length c0_1], .int .i64 a1] w fun e w' => e = .returned (.int .i64 r) ∧ Below w.heap.size w w' := by
 have hu27 := Tryz.underlying27
 have hu24 := Tryz.underlying24
 have HR0_0 := Aside0.mk hr0_0
 have HC0_0 := Aside0.mk hc0_0
 clear hr0_0 hc0_0
 have HR0_1 := Aside0.mk hr0_1
 have HC0_1 := Aside0.mk hc0_1
 clear hr0_1 hc0_1
 have HB := Aside0.mk (Below.refl w.heap.size w)
 unfold laws_szMach.f at h
 have H := h
 clear h
 replace H := bn H
 obtain ⟨t109, A3, H⟩ := H
 try dsimp only at H
 have HU4 := Aside0.mk H
 clear H
 go_enter Tryz.func4, Tryz.ntmps4
 go_upto_if 10 with (first | ((with_reducible refine gd 2 ?_); refine bx 2 27 #[.slice A0_0 l0_0.length c0_0, .slice A0_1 l0_1.length c0_1] ?_; clear HB; intro gb108 w5 hg BK108 hb GE108 HB; clear hb hg; obtain ⟨z6_0, z6_1⟩ := ca2 BK108; obtain ⟨f6_0, f6_1⟩ := fa2 BK108) | ((with_reducible refine gf 13 ?_); refine gc Tryz.func13 (some 8) (laws_szMem.calls A0_0 c0_0 _ _ _ _ (cb HR0_0) HC0_0.out A3.out) ?_; rintro e w7 ⟨rfl, hb⟩; refine ⟨_, rfl, ?_⟩; replace BK108 := b_ BK108 hb; replace HB := hs hb; try clear hb))
 (try refine ap ?_)
 have H := HU4.out
 clear HU4
 replace H := ilt H
 rcases H with ⟨c8b0, H⟩ | ⟨c8b0, H⟩
 ·(first | rw [c8b0] | (simp only [i64_w, i32_w]; rw [c8b0]) | (simp only [c8b2, Bool.not_true, Bool.not_false]) | (simp only [c8b1, Bool.not_true, Bool.not_false]) | skip)
  obtain rfl := Option.some.inj H
  go_wp2
  go_ret
  exact ⟨rt, bw⟩
 ·(first | rw [c8b0] | (simp only [i64_w, i32_w]; rw [c8b0]) | (simp only [c8b2, Bool.not_true, Bool.not_false]) | (simp only [c8b1, Bool.not_true, Bool.not_false]) | skip)
  replace H := bn H
  obtain ⟨t110, A9, H⟩ := H
  try dsimp only at H
  have HU10 := Aside0.mk H
  clear H
  obtain ⟨z11_0, z11_1⟩ := ca2 BK108
  obtain ⟨f11_0, f11_1⟩ := fa2 BK108
  go_upto_if 16 with (first | ((with_reducible refine gf 14 ?_); refine gc Tryz.func14 (some 14) (laws_szWarpS.calls _ A0_1 c0_1 _ _ _ _ (cb HR0_1) HC0_1.out A9.out) ?_; rintro e w12 ⟨rfl, hb⟩; refine ⟨_, rfl, ?_⟩; replace BK108 := b_ BK108 hb; replace HB := hs hb; try clear hb))
  (try refine ap ?_)
  have H := HU10.out
  clear HU10
  replace H := ilt H
  rcases H with ⟨c13b0, H⟩ | ⟨c13b0, H⟩
  ·(first | rw [c13b0] | (simp only [i64_w, i32_w]; rw [c13b0]) | (simp only [c13b2, Bool.not_true, Bool.not_false]) | (simp only [c13b1, Bool.not_true, Bool.not_false]) | skip)
   obtain rfl := Option.some.inj H
   go_wp2
   go_ret
   exact ⟨rt, bw⟩
  ·(first | rw [c13b0] | (simp only [i64_w, i32_w]; rw [c13b0]) | (simp only [c13b2, Bool.not_true, Bool.not_false]) | (simp only [c13b1, Bool.not_true, Bool.not_false]) | skip)
   obtain rfl := Option.some.inj H
   go_wp2
   go_ret
   exact ⟨rt, bw⟩

/-! ### spec_l01Bits: function 70 -/
def spec_l01Bits.l0 : Nat → Int → List Int → Int → Option (List Int)
 | 0, _, _, _ => none
 | k + 1, x0, x3, x4 => if x4 < 32 then (if x3.length < 17592186044416 then (spec_l01Bits.l0 k ((Int.tdiv x0 2) % 4294967296) (x3 ++ [wrap64 (Int.tmod x0 2)]) (wrap64 (x4 + 1))) else (none)) else (some x3)
def spec_l01Bits.f (k : Nat) (a0 : Int) : Option (List Int) := spec_l01Bits.l0 k a0 (([] : List Int)) 0
theorem spec_l01Bits.mono_l : ∀ k, (∀ y0 y1 y2, LeO (spec_l01Bits.l0 k y0 y1 y2) (spec_l01Bits.l0 (k + 1) y0 y1 y2))
 | 0 => fun _ _ _ r h => by simp [spec_l01Bits.l0] at h
 | k + 1 => by
  have ih0 := spec_l01Bits.mono_l k
  ·intro y0 y1 y2
   unfold spec_l01Bits.l0
   repeat' first
    | (with_reducible first | exact ih0 .. | exact LeO.refl _ | exact LeO.none _ | refine LeO.ite ?_ ?_ | refine LeO.bind ?_ (fun _ => ?_))
    | exact LeO.none _ | refine LeO.ite ?_ ?_ | refine LeO.bind ?_ (fun _ => ?_)
theorem spec_l01Bits.mono : ∀ a0 k, LeO (spec_l01Bits.f k a0) (spec_l01Bits.f (k + 1) a0) := by
 intro a0 k
 have ih0 := spec_l01Bits.mono_l k
 unfold spec_l01Bits.f
 repeat' first
  | (with_reducible first | exact ih0 .. | exact LeO.refl _ | exact LeO.none _ | refine LeO.ite ?_ ?_ | refine LeO.bind ?_ (fun _ => ?_))
  | exact LeO.none _ | refine LeO.ite ?_ ?_ | refine LeO.bind ?_ (fun _ => ?_)
set_option maxHeartbeats 8000000 in
set_option maxRecDepth 100000 in
theorem spec_l01Bits.calls (k : Nat) (a0 : Int) (r : List Int) (w : World) (h : spec_l01Bits.f k a0 = some r) :
  Calls Tryz.prog 70 #[.int .u32 a0] w fun e w' => ∃ v0_ : Value, e = .returned (v0_) ∧ Kd.R (Kd.int .i64) 3 w' w.heap.size (fun _ => True) v0_ r ∧ Below w.heap.size w w' := by
 have HB := Aside0.mk (Below.refl w.heap.size w)
 unfold spec_l01Bits.f at h
 have H := h
 clear h
 obtain ⟨y111, hy111⟩ : ∃ y_ : List Int, y_ = (([] : List Int)) := ⟨_, rfl⟩
 rw [← hy111] at H
 try with_reducible replace H := bs H
 have Ny111 := Aside0.mk hy111
 clear hy111
 have H' := Aside0.mk H
 clear H
 go_enter Tryz.func70, Tryz.ntmps70
 go_wp2_with (first | ((with_reducible refine gate_dst (N := 5) rfl ?_); refine Kd.R_lit (Kd.int .i64) _ 3 ?hg (N := 5) ?hd (xs := ([] : List Int)) (inner := []) (ok := fun _ => True) (okp := fun _ => True) ?hr ?hp (fun _ hk => hk) trivial (Below.refl _ _) (Nat.le_refl _) (by simp) ?_; (case hd => rfl); (case hg => rfl); (case hr => first | (go_simp; done) | (go_simp; rfl)); (case hp => exact (Reps.none _ _)); intro v112 w2 ho3 hb hg_ hnew_; clear hg_ hnew_; (first | rw [← Ny111.out] at ho3 | (simp only [Int.reduceToNat] at ho3; rw [← Ny111.out] at ho3)); have HO113 := Aside0.mk (Kd.R_lower ho3 (below_size bw)); replace HB := hs hb; clear hb ho3))
 go_loopg [0, 3, 4] k (fun kq v0 v3 v4 w' => ∃ (x0_1 : Int) (x3_1 : List Int) (x4_1 : Int), v0 = .int .u32 x0_1 ∧ v4 = .int .i64 x4_1 ∧ Aside0 (spec_l01Bits.l0 kq x0_1 x3_1 x4_1 = some r) ∧ Aside0 (kq ≤ k) ∧ Aside0 (Kd.R (Kd.int .i64) 3 w' w.heap.size (fun _ => True) v3 x3_1) ∧ Aside0 (Below w.heap.size w w'))
 case atStart => exact ⟨(a0), (y111), (0), ev, ev, H', ⟨Nat.le_refl _⟩, ⟨ro HO113⟩, ⟨bw⟩⟩
 case round =>
  clear H'
  obtain ⟨x0_1, x3_1, x4_1, rfl, rfl, HA, HK1, HO_3, HB⟩ := hrel
  cases gk with
  | zero => exact absurd HA.out (by simp [spec_l01Bits.l0])
  | succ k1 =>
   have H := HA.out
   clear HA
   simp only [spec_l01Bits.l0] at H
   replace H := ilt H
   rcases H with ⟨c4b0, H⟩ | ⟨c4b0, H⟩
   ·by_cases c5 : x3_1.length < 17592186044416
    ·rw [if_pos c5] at H
     have LMc5 := Aside0.mk c5
     clear c5
     obtain ⟨y114, hy114⟩ : ∃ y_ : List Int, y_ = (x3_1 ++ [wrap64 (Int.tmod x0_1 2)]) := ⟨_, rfl⟩
     rw [← hy114] at H
     try with_reducible replace H := bs H
     have Ny114 := Aside0.mk hy114
     clear hy114
     have H' := Aside0.mk H
     clear H
     go_wp2_with (first | ((with_reducible refine gate_builtin (b := .append) (xs := #[.tmp 10, .tmp 14]) rfl ?_); at_builtin; refine Kd.R_append (Kd.int .i64) (w0 := w) w.heap.size rfl (.tmp 10) (.tmp 14) 29 3 (.int .i64 0) 8 rfl Tryz.underlying29 info3 rfl (by decide) (by omega) u3 x3_1 (wrap64 (Int.tmod x0_1 2)) [.int .i64 (wrap64 (Int.tmod x0_1 2))] (fun _ => True) (fun _ => False) rfl rfl ?aP (fun _ hk => hk.elim) ?aF ?aO ?aB ?aS ?aL ?_; (case aP => exact rfl); (case aB => exact bw); (case aF => exact (fun _ _ => trivial)); (case aO => exact (ro HO_3)); (case aS => exact (below_size bw)); (case aL => have := LMc5.out; omega); intro v115 w6 ho hb hg hat; rw [← Ny114.out] at ho; have HO116 := Aside0.mk (ho); replace HB := Aside0.mk (hb); clear HO_3; clear ho hb hg hat))
     go_roundg k1
     case measure => have := HK1.out; omega
     case rel => exact ⟨((Int.tdiv x0_1 2) % 4294967296), (y114), (wrap64 (x4_1 + 1)), ev, ev, H', ⟨oa HK1⟩, ⟨ro HO116⟩, ⟨bw⟩⟩
    ·rw [if_neg c5] at H
     exact absurd H (by simp)
   ·obtain rfl := Option.some.inj H
    go_wp2
    go_ret
    exact ⟨_, rt, ro HO_3, bw⟩

/-! ### spec_BitList: function 48 -/
def spec_BitList.l0 : Nat → List Int → List Int → Int → Option (List Int)
 | 0, _, _, _ => none
 | k + 1, x3, x4, x5 => if x5 < 32 then (if 0 ≤ x5 then (if x5 < (x4.length : Int) then (if (rd x4 x5) = 1 then (if x3.length < 17592186044416 then (spec_BitList.l0 k (x3 ++ [x5]) x4 (wrap64 (x5 + 1))) else (none)) else (spec_BitList.l0 k x3 x4 (wrap64 (x5 + 1)))) else (none)) else (none)) else (some x3)
def spec_BitList.f (k : Nat) (a0 : Int) : Option (List Int) := (spec_l01Bits.f k a0).bind fun t120 => (spec_BitList.l0 k (([] : List Int)) t120 0)
theorem spec_BitList.mono_l : ∀ k, (∀ y0 y1 y2, LeO (spec_BitList.l0 k y0 y1 y2) (spec_BitList.l0 (k + 1) y0 y1 y2))
 | 0 => fun _ _ _ r h => by simp [spec_BitList.l0] at h
 | k + 1 => by
  have ih0 := spec_BitList.mono_l k
  ·intro y0 y1 y2
   unfold spec_BitList.l0
   repeat' first
    | (with_reducible first | exact ih0 .. | exact spec_l01Bits.mono .. | exact LeO.refl _ | exact LeO.none _ | refine LeO.ite ?_ ?_ | refine LeO.bind ?_ (fun _ => ?_))
    | exact LeO.none _ | refine LeO.ite ?_ ?_ | refine LeO.bind ?_ (fun _ => ?_)
theorem spec_BitList.mono : ∀ a0 k, LeO (spec_BitList.f k a0) (spec_BitList.f (k + 1) a0) := by
 intro a0 k
 have ih0 := spec_BitList.mono_l k
 unfold spec_BitList.f
 repeat' first
  | (with_reducible first | exact ih0 .. | exact spec_l01Bits.mono .. | exact LeO.refl _ | exact LeO.none _ | refine LeO.ite ?_ ?_ | refine LeO.bind ?_ (fun _ => ?_))
  | exact LeO.none _ | refine LeO.ite ?_ ?_ | refine LeO.bind ?_ (fun _ => ?_)
set_option maxHeartbeats 8000000 in
set_option maxRecDepth 100000 in
theorem spec_BitList.calls (k : Nat) (a0 : Int) (r : List Int) (w : World) (h : spec_BitList.f k a0 = some r) :
  Calls Tryz.prog 48 #[.int .u32 a0] w fun e w' => ∃ v0_ : Value, e = .returned (v0_) ∧ Kd.R (Kd.int .i64) 3 w' w.heap.size (fun _ => True) v0_ r ∧ Below w.heap.size w w' := by
 have HB := Aside0.mk (Below.refl w.heap.size w)
 unfold spec_BitList.f at h
 have H := h
 clear h
 obtain ⟨y117, hy117⟩ : ∃ y_ : List Int, y_ = (([] : List Int)) := ⟨_, rfl⟩
 rw [← hy117] at H
 try with_reducible replace H := bs H
 have Ny117 := Aside0.mk hy117
 clear hy117
 replace H := bn H
 obtain ⟨t120, A2, H⟩ := H
 try dsimp only at H
 have H' := Aside0.mk H
 clear H
 go_enter Tryz.func48, Tryz.ntmps48
 go_wp2_with (first | ((with_reducible refine gate_dst (N := 6) rfl ?_); refine Kd.R_lit (Kd.int .i64) _ 3 ?hg (N := 6) ?hd (xs := ([] : List Int)) (inner := []) (ok := fun _ => True) (okp := fun _ => True) ?hr ?hp (fun _ hk => hk) trivial (Below.refl _ _) (Nat.le_refl _) (by simp) ?_; (case hd => rfl); (case hg => rfl); (case hr => first | (go_simp; done) | (go_simp; rfl)); (case hp => exact (Reps.none _ _)); intro v118 w3 ho4 hb hg_ hnew_; clear hg_ hnew_; (first | rw [← Ny117.out] at ho4 | (simp only [Int.reduceToNat] at ho4; rw [← Ny117.out] at ho4)); have HO119 := Aside0.mk (Kd.R_lower ho4 (below_size bw)); replace HB := hs hb; clear hb ho4) | ((with_reducible refine gf 70 ?_); refine gc Tryz.func70 (some 8) (spec_l01Bits.calls _ _ _ _ A2.out) ?_; rintro e w5 ⟨v121, rfl, ho0, hb⟩; refine ⟨_, rfl, ?_⟩; have HO122 := Aside0.mk (Kd.R_lower (Kd.R_new' ho0 (Kd.R_lt (ro HO119))) (below_size bw)); replace HO119 := Aside0.mk (Kd.R_elder' (ro HO119) (Kd.R_base ho0) hb); replace HB := hs hb; try clear hb; (try clear ho0)))
 go_loopg [3, 5] k (fun kq v3 v5 w' => ∃ (x3_1 : List Int) (x5_1 : Int), v5 = .int .i64 x5_1 ∧ Aside0 (spec_BitList.l0 kq x3_1 t120 x5_1 = some r) ∧ Aside0 (kq ≤ k) ∧ Aside0 (Kd.R (Kd.int .i64) 3 w' w.heap.size (fun k_ => some k_ ≠ (v121 : Value).ownBlock) v3 x3_1) ∧ Aside0 (Kd.R (Kd.int .i64) 3 w' w.heap.size (fun k_ => some k_ ≠ (v3 : Value).ownBlock) v121 t120) ∧ Aside0 (Below w.heap.size w w'))
 case atStart => exact ⟨(y117), (0), ev, H', ⟨Nat.le_refl _⟩, ⟨by (with_reducible repeat (first | apply Kd.R_alloc | apply Kd.R_drewN | apply Kd.R_drew)); exact Kd.R_mono HO119.out (fun _ hk => hk.2)⟩, ⟨by (with_reducible repeat (first | apply Kd.R_alloc | apply Kd.R_drewN | apply Kd.R_drew)); exact Kd.R_mono HO122.out (fun _ hk => hk.2)⟩, ⟨bw⟩⟩
 case round =>
  clear H'
  obtain ⟨x3_1, x5_1, rfl, HA, HK1, HO_3, HO_4, HB⟩ := hrel
  cases gk with
  | zero => exact absurd HA.out (by simp [spec_BitList.l0])
  | succ k1 =>
   have H := HA.out
   clear HA
   simp only [spec_BitList.l0] at H
   replace H := ilt H
   rcases H with ⟨c6b0, H⟩ | ⟨c6b0, H⟩
   ·by_cases c7 : 0 ≤ x5_1
    ·rw [if_pos c7] at H
     have c7b0 : decide (0 ≤ x5_1) = true := decide_eq_true c7
     clear c7
     by_cases c8 : x5_1 < (t120.length : Int)
     ·rw [if_pos c8] at H
      have c8b0 : decide (x5_1 < (t120.length : Int)) = true := decide_eq_true c8
      clear c8
      replace H := ieq H
      rcases H with ⟨c9b0, c9b1, H⟩ | ⟨c9, c9b0, c9b1, H⟩
      ·by_cases c10 : x3_1.length < 17592186044416
       ·rw [if_pos c10] at H
        have LMc10 := Aside0.mk c10
        clear c10
        obtain ⟨y124, hy124⟩ : ∃ y_ : List Int, y_ = (x3_1 ++ [x5_1]) := ⟨_, rfl⟩
        rw [← hy124] at H
        try with_reducible replace H := bs H
        have Ny124 := Aside0.mk hy124
        clear hy124
        have H' := Aside0.mk H
        clear H
        obtain ⟨Ao11, co11, eo11⟩ := Kd.R_slice HO_4.out
        subst eo11
        have p123 : 0 ≤ (x5_1 : Int) := of_decide_eq_true as_
        have q123 : x5_1 < (t120.length : Int) := of_decide_eq_true as_
        obtain ⟨ad123, e123, hx123_0⟩ := Kd.at_int (Kd.R_reads' HO_4.out).2.2 x5_1 p123 q123
        cases e123
        replace p123 := eq_true p123
        replace q123 := eq_true q123
        go_wp2_with (first | ((with_reducible refine gate_builtin (b := .append) (xs := #[.tmp 18, .tmp 20]) rfl ?_); at_builtin; refine Kd.R_append (Kd.int .i64) (w0 := w) w.heap.size rfl (.tmp 18) (.tmp 20) 29 3 (.int .i64 0) 8 rfl Tryz.underlying29 info3 rfl (by decide) (by omega) u3 x3_1 x5_1 [.int .i64 x5_1] (fun k_ => some k_ ≠ (.slice (some ad123) t120.length co11 : Value).ownBlock) (fun _ => False) rfl rfl ?aP (fun _ hk => hk.elim) ?aF ?aO ?aB ?aS ?aL ?_; (case aP => exact rfl); (case aB => exact bw); (case aF => exact (fun k_ hk => Kd.fresh' (Kd.R_lt (ro HO_4)) k_ hk)); (case aO => exact (ro HO_3)); (case aS => exact (below_size bw)); (case aL => have := LMc10.out; omega); intro v125 w12 ho hb hg hat; rw [← Ny124.out] at ho; replace HO_4 := Aside0.mk (Kd.R_after (ok := (fun _ => True)) (by (with_reducible repeat (first | apply Kd.R_alloc | apply Kd.R_drewN | apply Kd.R_drew)); exact Kd.R_mono HO_4.out (fun _ hk => ⟨trivial, hk⟩)) hg hat); have HO126 := Aside0.mk (ho); replace HB := Aside0.mk (hb); clear HO_3; clear ho hb hg hat))
        go_roundg k1
        case measure => have := HK1.out; omega
        case rel => exact ⟨(y124), (wrap64 (x5_1 + 1)), ev, H', ⟨oa HK1⟩, ⟨ro HO126⟩, ⟨by (with_reducible repeat (first | apply Kd.R_alloc | apply Kd.R_drewN | apply Kd.R_drew)); exact Kd.R_mono HO_4.out (fun _ hk => hk.2)⟩, ⟨bw⟩⟩
       ·rw [if_neg c10] at H
        exact absurd H (by simp)
      ·have H' := Aside0.mk H
       clear H
       obtain ⟨Ao13, co13, eo13⟩ := Kd.R_slice HO_4.out
       subst eo13
       have p123 : 0 ≤ (x5_1 : Int) := of_decide_eq_true as_
       have q123 : x5_1 < (t120.length : Int) := of_decide_eq_true as_
       obtain ⟨ad123, e123, hx123_0⟩ := Kd.at_int (Kd.R_reads' HO_4.out).2.2 x5_1 p123 q123
       cases e123
       replace p123 := eq_true p123
       replace q123 := eq_true q123
       go_wp2
       go_roundg k1
       case measure => have := HK1.out; omega
       case rel => exact ⟨(x3_1), (wrap64 (x5_1 + 1)), ev, H', ⟨oa HK1⟩, ⟨ro HO_3⟩, ⟨ro HO_4⟩, ⟨bw⟩⟩
     ·rw [if_neg c8] at H
      exact absurd H (by simp)
    ·rw [if_neg c7] at H
     exact absurd H (by simp)
   ·obtain rfl := Option.some.inj H
    go_wp2
    go_ret
    exact ⟨_, rt, by (with_reducible repeat (first | apply Kd.R_alloc | apply Kd.R_drewN | apply Kd.R_drew)); exact Kd.R_mono HO_3.out (fun _ hk => trivial), bw⟩

/-! ### spec_Highest: function 69 -/
def spec_Highest.f (k : Nat) (a0 : Int) : Option (Int) := (spec_BitList.f k a0).bind fun t127 => (if (t127.length : Int) = 0 then (some (-1)) else (if 0 ≤ (wrap64 ((t127.length : Int) - 1)) then (if (wrap64 ((t127.length : Int) - 1)) < (t127.length : Int) then (some (rd t127 (wrap64 ((t127.length : Int) - 1)))) else (none)) else (none)))
theorem spec_Highest.mono : ∀ a0 k, LeO (spec_Highest.f k a0) (spec_Highest.f (k + 1) a0) := by
 intro a0 k
 unfold spec_Highest.f
 repeat' first
  | (with_reducible first | exact spec_BitList.mono .. | exact LeO.refl _ | exact LeO.none _ | refine LeO.ite ?_ ?_ | refine LeO.bind ?_ (fun _ => ?_))
  | exact LeO.none _ | refine LeO.ite ?_ ?_ | refine LeO.bind ?_ (fun _ => ?_)
set_option maxHeartbeats 8000000 in
set_option maxRecDepth 100000 in
theorem spec_Highest.calls (k : Nat) (a0 : Int) (r : Int) (w : World) (h : spec_Highest.f k a0 = some r) :
  Calls Tryz.prog 69 #[.int .u32 a0] w fun e w' => e = .returned (.int .i64 r) ∧ Below w.heap.size w w' := by
 have HB := Aside0.mk (Below.refl w.heap.size w)
 unfold spec_Highest.f at h
 have H := h
 clear h
 replace H := bn H
 obtain ⟨t127, A2, H⟩ := H
 try dsimp only at H
 have HU3 := Aside0.mk H
 clear H
 go_enter Tryz.func69, Tryz.ntmps69
 go_upto_if 8 with (first | ((with_reducible refine gf 48 ?_); refine gc Tryz.func48 (some 5) (spec_BitList.calls _ _ _ _ A2.out) ?_; rintro e w4 ⟨v128, rfl, ho0, hb⟩; refine ⟨_, rfl, ?_⟩; have HO129 := Aside0.mk (Kd.R_lower ho0 (below_size bw)); replace HB := hs hb; try clear hb; (try clear ho0); obtain ⟨Ao5, co5, eo5⟩ := Kd.R_slice HO129.out; subst eo5))
 (try refine ap ?_)
 have H := HU3.out
 clear HU3
 by_cases c6 : (t127.length : Int) = 0
 ·rw [if_pos c6] at H
  have c6b0 : ((t127.length : Int) == 0) = true := beq_iff_eq.mpr c6
  have c6b1 : ((t127.length : Int) != 0) = false := bne_eq_false_iff_eq.mpr c6
  clear c6
  (first | rw [c6b0] | (simp only [i64_w, i32_w]; rw [c6b0]) | (simp only [c6b2, Bool.not_true, Bool.not_false]) | (simp only [c6b1, Bool.not_true, Bool.not_false]) | skip)
  obtain rfl := Option.some.inj H
  go_wp2
  go_ret
  exact ⟨rt, bw⟩
 ·rw [if_neg c6] at H
  have c6b0 : ((t127.length : Int) == 0) = false := beq_eq_false_iff_ne.mpr c6
  have c6b1 : ((t127.length : Int) != 0) = true := bne_iff_ne.mpr c6
  have c6b2 : ¬ (t127 = []) := fun h_ => c6 (by rw [h_]; rfl)
  (first | rw [c6b0] | (simp only [i64_w, i32_w]; rw [c6b0]) | (simp only [c6b2, Bool.not_true, Bool.not_false]) | (simp only [c6b1, Bool.not_true, Bool.not_false]) | skip)
  obtain ⟨ji7, hji7⟩ : ∃ j_ : Int, (wrap64 ((t127.length : Int) - 1)) = j_ := ⟨_, rfl⟩
  first | rw [hji7] at H | simp only [hji7] at H
  have hji7w : (IntKind.i64.wrap ((t127.length : Int) - 1)) = ji7 := (i64_w _).trans hji7
  by_cases c8 : 0 ≤ (ji7)
  ·rw [if_pos c8] at H
   have c8b0 : decide (0 ≤ (ji7)) = true := decide_eq_true c8
   clear c8
   by_cases c9 : (ji7) < (t127.length : Int)
   ·rw [if_pos c9] at H
    have c9b0 : decide ((ji7) < (t127.length : Int)) = true := decide_eq_true c9
    clear c9
    obtain rfl := Option.some.inj H
    have p130 : 0 ≤ ((ji7) : Int) := of_decide_eq_true as_
    have q130 : (ji7) < (t127.length : Int) := of_decide_eq_true as_
    obtain ⟨ad130, e130, hx130_0⟩ := Kd.at_int (Kd.R_reads' HO129.out).2.2 (ji7) p130 q130
    cases e130
    replace p130 := eq_true p130
    replace q130 := eq_true q130
    go_wp2
    go_ret
    exact ⟨by first | exact rt1 | (simp only [← hji7]; exact rt1) | exact rt, bw⟩
   ·rw [if_neg c9] at H
    exact absurd H (by simp)
  ·rw [if_neg c8] at H
   exact absurd H (by simp)

/-! ### spec_l04Class: function 71 -/
def spec_l04Class.f (a0 : Int) : Option (Bool) := if a0 ≥ 0 then (some (decide (a0 < 5))) else (some false)
set_option maxHeartbeats 8000000 in
set_option maxRecDepth 100000 in
theorem spec_l04Class.calls (a0 : Int) (r : Bool) (w : World) (h : spec_l04Class.f a0 = some r) :
  Calls Tryz.prog 71 #[.int .i64 a0] w fun e w' => e = .returned (.bool r) ∧ Drawn0 w w' := by
 unfold spec_l04Class.f at h
 have H := h
 clear h
 replace H := ige H
 rcases H with ⟨c2b0, H⟩ | ⟨c2b0, H⟩
 ·obtain rfl := Option.some.inj H
  go_enter Tryz.func71, Tryz.ntmps71
  go_wp2
  go_ret
  exact ⟨ev, dr⟩
 ·obtain rfl := Option.some.inj H
  go_enter Tryz.func71, Tryz.ntmps71
  go_wp2
  go_ret
  exact ⟨ev, dr⟩

/-! ### spec_l04Pow: function 74 -/
def spec_l04Pow.l0 : Nat → Int → Int → Option (Int)
 | 0, _, _ => none
 | k + 1, x0, x3 => if x0 > 0 then (spec_l04Pow.l0 k (wrap64 (x0 - 1)) (wrap64 (2 * x3))) else (some x3)
def spec_l04Pow.f (k : Nat) (a0 : Int) : Option (Int) := spec_l04Pow.l0 k a0 1
theorem spec_l04Pow.mono_l : ∀ k, (∀ y0 y1, LeO (spec_l04Pow.l0 k y0 y1) (spec_l04Pow.l0 (k + 1) y0 y1))
 | 0 => fun _ _ r h => by simp [spec_l04Pow.l0] at h
 | k + 1 => by
  have ih0 := spec_l04Pow.mono_l k
  ·intro y0 y1
   unfold spec_l04Pow.l0
   repeat' first
    | (with_reducible first | exact ih0 .. | exact LeO.refl _ | exact LeO.none _ | refine LeO.ite ?_ ?_ | refine LeO.bind ?_ (fun _ => ?_))
    | exact LeO.none _ | refine LeO.ite ?_ ?_ | refine LeO.bind ?_ (fun _ => ?_)
theorem spec_l04Pow.mono : ∀ a0 k, LeO (spec_l04Pow.f k a0) (spec_l04Pow.f (k + 1) a0) := by
 intro a0 k
 have ih0 := spec_l04Pow.mono_l k
 unfold spec_l04Pow.f
 repeat' first
  | (with_reducible first | exact ih0 .. | exact LeO.refl _ | exact LeO.none _ | refine LeO.ite ?_ ?_ | refine LeO.bind ?_ (fun _ => ?_))
  | exact LeO.none _ | refine LeO.ite ?_ ?_ | refine LeO.bind ?_ (fun _ => ?_)
set_option maxHeartbeats 8000000 in
set_option maxRecDepth 100000 in
theorem spec_l04Pow.calls (k : Nat) (a0 : Int) (r : Int) (w : World) (h : spec_l04Pow.f k a0 = some r) :
  Calls Tryz.prog 74 #[.int .i64 a0] w fun e w' => e = .returned (.int .i64 r) ∧ Drawn0 w w' := by
 unfold spec_l04Pow.f at h
 have H := h
 clear h
 have H' := Aside0.mk H
 clear H
 go_enter Tryz.func74, Tryz.ntmps74
 go_wp2
 go_loopg [0, 3] k (fun kq v0 v3 w' => ∃ (x0_1 : Int) (x3_1 : Int), v0 = .int .i64 x0_1 ∧ v3 = .int .i64 x3_1 ∧ Aside0 (spec_l04Pow.l0 kq x0_1 x3_1 = some r) ∧ Aside0 (kq ≤ k) ∧ Drawn0 w w')
 case atStart => exact ⟨(a0), (1), ev, ev, H', ⟨Nat.le_refl _⟩, dr⟩
 case round =>
  clear H'
  obtain ⟨x0_1, x3_1, rfl, rfl, HA, HK1, ⟨m1, rfl⟩⟩ := hrel
  cases gk with
  | zero => exact absurd HA.out (by simp [spec_l04Pow.l0])
  | succ k1 =>
   have H := HA.out
   clear HA
   simp only [spec_l04Pow.l0] at H
   replace H := igt H
   rcases H with ⟨c2b0, H⟩ | ⟨c2b0, H⟩
   ·have H' := Aside0.mk H
    clear H
    go_wp2
    go_roundg k1
    case measure => have := HK1.out; omega
    case rel => exact ⟨(wrap64 (x0_1 - 1)), (wrap64 (2 * x3_1)), ev, ev, H', ⟨oa HK1⟩, dr⟩
   ·obtain rfl := Option.some.inj H
    go_wp2
    go_ret
    exact ⟨ev, dr⟩

/-! ### spec_PerPage: function 72 -/
def spec_PerPage.f (k : Nat) (a0 : Int) : Option (Int) := (spec_l04Class.f a0).bind fun t131 => (if t131 = true then ((spec_l04Pow.f k a0).bind fun t132 => (if t132 = 0 then (none) else (some (wrap64 ((16 : Int) / t132))))) else (some 0))
theorem spec_PerPage.mono : ∀ a0 k, LeO (spec_PerPage.f k a0) (spec_PerPage.f (k + 1) a0) := by
 intro a0 k
 unfold spec_PerPage.f
 repeat' first
  | (with_reducible first | exact spec_l04Pow.mono .. | exact LeO.refl _ | exact LeO.none _ | refine LeO.ite ?_ ?_ | refine LeO.bind ?_ (fun _ => ?_))
  | exact LeO.none _ | refine LeO.ite ?_ ?_ | refine LeO.bind ?_ (fun _ => ?_)
set_option maxHeartbeats 8000000 in
set_option maxRecDepth 100000 in
theorem spec_PerPage.calls (k : Nat) (a0 : Int) (r : Int) (w : World) (h : spec_PerPage.f k a0 = some r) :
  Calls Tryz.prog 72 #[.int .i64 a0] w fun e w' => e = .returned (.int .i64 r) ∧ Drawn0 w w' := by
 unfold spec_PerPage.f at h
 have H := h
 clear h
 replace H := bn H
 obtain ⟨t131, A2, H⟩ := H
 try dsimp only at H
 have HU3 := Aside0.mk H
 clear H
 go_enter Tryz.func72, Tryz.ntmps72
 go_upto_if 5 with (first | ((with_reducible refine gf 71 ?_); refine gc Tryz.func71 (some 4) (spec_l04Class.calls _ _ _ A2.out) ?_; rintro e w' ⟨rfl, ⟨nd, rfl⟩⟩; refine ⟨_, rfl, ?_⟩))
 (try refine ap ?_)
 have H := HU3.out
 clear HU3
 replace H := ib H
 rcases H with ⟨rfl, H⟩ | ⟨rfl, H⟩
 ·(try simp only [Bool.not_true, Bool.not_false])
  replace H := bn H
  obtain ⟨t132, A5, H⟩ := H
  try dsimp only at H
  by_cases c6 : t132 = 0
  ·rw [if_pos c6] at H
   exact absurd H (by simp)
  ·rw [if_neg c6] at H
   have c6b0 : (t132 == 0) = false := beq_eq_false_iff_ne.mpr c6
   have c6b1 : (t132 != 0) = true := bne_iff_ne.mpr c6
   obtain rfl := Option.some.inj H
   go_wp2_with (first | ((with_reducible refine gf 74 ?_); refine gc Tryz.func74 (some 7) (spec_l04Pow.calls _ _ _ _ A5.out) ?_; rintro e w' ⟨rfl, ⟨nd, rfl⟩⟩; refine ⟨_, rfl, ?_⟩))
   go_ret
   exact ⟨ev, dr⟩
 ·(try simp only [Bool.not_true, Bool.not_false])
  obtain rfl := Option.some.inj H
  go_wp2
  go_ret
  exact ⟨ev, dr⟩

end Go.Proofs.YtfhcnnkeokjfpaaGreatDoor.PO1
namespace Go.Proofs.YtfhcnnkeokjfpaaGreatDoor.PO1
open Go.RowKit Go.Proofs.YtfhcnnkeokjfpaaGreatDoorW.PrintWords Go.Proofs.YtfhcnnkeokjfpaaGreatDoorW.PrintLast Go.Proofs.YtfhcnnkeokjfpaaGreatDoorW.PrintMore Go.Proofs.YtfhcnnkeokjfpaaGreatDoor.T
attribute [local go_sem] max2_int min2_int max_two min_two max_three min_three max_four min_four   -- for this text's walks alone
set_option linter.unusedVariables false
set_option linter.unusedSimpArgs false

/-! ### spec_CtlOk: function 54 -/
def spec_CtlOk.j0 : Nat → Int → Bool → Int → Int → Int → Int → Option (Bool)
 | 0, _, _, _, _, _, _ => none
 | k + 1, x4, x5, x134000, x134001, x134002, x134003 => if x5 = true then (if x134001 = 0 then (if x134002 = 0 then (some (x134003 == 0)) else (some false)) else (some false)) else (if x4 = 1 then ((spec_l04Class.f x134001).bind fun t134 => (if t134 = true then (if x134002 = 0 then (some false) else ((spec_Highest.f k x134002).bind fun t135 => ((spec_PerPage.f k x134001).bind fun t136 => (if t135 < t136 then (some (x134003 == 0)) else (some false))))) else (some false))) else (if x4 = 2 then (if x134001 = 0 then (if x134002 = 0 then (if x134003 ≥ 2 then (some (decide (x134003 ≤ 16))) else (some false)) else (some false)) else (some false)) else (some false)))
def spec_CtlOk.f (k : Nat) (a0_0 : Int) (a0_1 : Int) (a0_2 : Int) (a0_3 : Int) : Option (Bool) := if a0_0 = 0 then (spec_CtlOk.j0 k a0_0 (a0_0 == 0) a0_0 a0_1 a0_2 a0_3) else (spec_CtlOk.j0 k a0_0 (a0_0 == 3) a0_0 a0_1 a0_2 a0_3)
theorem spec_CtlOk.mono_l : ∀ k, (∀ y0 y1 y2 y3 y4 y5, LeO (spec_CtlOk.j0 k y0 y1 y2 y3 y4 y5) (spec_CtlOk.j0 (k + 1) y0 y1 y2 y3 y4 y5))
 | 0 => fun _ _ _ _ _ _ r h => by simp [spec_CtlOk.j0] at h
 | k + 1 => by
  have ih0 := spec_CtlOk.mono_l k
  ·intro y0 y1 y2 y3 y4 y5
   unfold spec_CtlOk.j0
   repeat' first
    | (with_reducible first | exact ih0 .. | exact spec_Highest.mono .. | exact spec_PerPage.mono .. | exact LeO.refl _ | exact LeO.none _ | refine LeO.ite ?_ ?_ | refine LeO.bind ?_ (fun _ => ?_))
    | exact LeO.none _ | refine LeO.ite ?_ ?_ | refine LeO.bind ?_ (fun _ => ?_)
theorem spec_CtlOk.mono : ∀ a0 a1 a2 a3 k, LeO (spec_CtlOk.f k a0 a1 a2 a3) (spec_CtlOk.f (k + 1) a0 a1 a2 a3) := by
 intro a0 a1 a2 a3 k
 have ih0 := spec_CtlOk.mono_l k
 unfold spec_CtlOk.f
 repeat' first
  | (with_reducible first | exact ih0 .. | exact spec_Highest.mono .. | exact spec_PerPage.mono .. | exact LeO.refl _ | exact LeO.none _ | refine LeO.ite ?_ ?_ | refine LeO.bind ?_ (fun _ => ?_))
  | exact LeO.none _ | refine LeO.ite ?_ ?_ | refine LeO.bind ?_ (fun _ => ?_)
def spec_CtlOk.T6 : Bool × List (List Nat × List Nat) := (true, [([], []), ([0], [0]), ([1], [1]), ([2, 2], [2]), ([3], [3]), ([4, 3], [3, 4]), ([5, 3], [3, 5]), ([3, 6], [3, 6]), ([7, 3], [7]), ([8], [8]), ([9, 8], [8, 9]), ([10, 8, 8], [8, 10]), ([8], [8]), ([12, 8], [8, 12]), ([13, 11, 8], [8, 13]), ([11, 14, 8], [8, 11, 14]), ([8, 15], [8, 15]), ([16, 14], [16]), ([17], [17]), ([18, 17], [17, 18]), ([19, 17], [17, 19]), ([17, 20], [17, 20]), ([21, 17, 0, 1, 2, 3, 4, 5, 6, 7, 8, 9, 10, 11, 12, 13, 14, 15, 16, 17, 18, 19, 20, 21], [21])])
def spec_CtlOk.B6 : List Nat := [0, 1, 3, 7, 15, 31, 63, 127, 255, 511, 1023, 2047, 511, 4607, 16383, 32767, 65535, 131071, 262143, 524287, 1048575, 2097151, 4194303]
theorem spec_CtlOk.tab6 : rtab .any (opsOf Tryz.f54 6) = spec_CtlOk.T6 := kr
theorem spec_CtlOk.bits6 : waitsOk spec_CtlOk.T6.2 spec_CtlOk.B6 = true := kr
set_option maxHeartbeats 2000000 in
set_option maxRecDepth 100000 in
theorem spec_CtlOk.calls (k : Nat) (a0_0 : Int) (a0_1 : Int) (a0_2 : Int) (a0_3 : Int) (r : Bool) (w : World) (h : spec_CtlOk.f k a0_0 a0_1 a0_2 a0_3 = some r) :
  Calls Tryz.prog 54 #[.agg #[.int .i64 a0_0, .int .i64 a0_1, .int .u32 a0_2, .int .i64 a0_3]] w fun e w' => e = .returned (.bool r) ∧ Below w.heap.size w w' := by
 have hu61 := Tryz.underlying61
 have HB := Aside0.mk (Below.refl w.heap.size w)
 unfold spec_CtlOk.f at h
 have H := h
 clear h
 have HC2 := Aside0.mk H
 clear H
 go_enter Tryz.func54, Tryz.ntmps54
 go_upto_if 5 with (first | ((with_reducible refine gd 1 ?_); refine bx 1 61 #[.int .i64 a0_0, .int .i64 a0_1, .int .u32 a0_2, .int .i64 a0_3] ?_; clear HB; intro gb133 w3 hg BK133 hb GE133 HB; clear hb hg; obtain ⟨z4_0, z4_1, z4_2, z4_3⟩ := ca4 BK133; obtain ⟨f4_0, f4_1, f4_2, f4_3⟩ := fa4 BK133))
 (try refine ap ?_)
 go_cut [5] (fun v5 wc => ∃ (kq : Nat) (x5_1 : Bool), v5 = .bool x5_1 ∧ Aside0 (spec_CtlOk.j0 kq a0_0 x5_1 a0_0 a0_1 a0_2 a0_3 = some r) ∧ Aside0 (kq ≤ k) ∧ Aside0 (wc.heap[gb133]? = some (.cells #[.int .i64 a0_0, .int .i64 a0_1, .int .u32 a0_2, .int .i64 a0_3] 61 (0, 0))) ∧ Aside0 (Below w.heap.size w wc))
 case first =>
  have H := HC2.out
  clear HC2
  replace H := ieq H
  rcases H with ⟨c5b0, c5b1, H⟩ | ⟨c5, c5b0, c5b1, H⟩
  ·(first | rw [c5b0] | (simp only [i64_w, i32_w]; rw [c5b0]) | (simp only [c5b2, Bool.not_true, Bool.not_false]) | (simp only [c5b1, Bool.not_true, Bool.not_false]) | skip)
   have H' := Aside0.mk H
   clear H
   go_wp2
   go_meet
   case rel => exact ⟨_, ((a0_0 == 0)), ev, H', ⟨om⟩, ⟨bk BK133⟩, ⟨bw⟩⟩
  ·(first | rw [c5b0] | (simp only [i64_w, i32_w]; rw [c5b0]) | (simp only [c5b2, Bool.not_true, Bool.not_false]) | (simp only [c5b1, Bool.not_true, Bool.not_false]) | skip)
   have H' := Aside0.mk H
   clear H
   go_wp2
   go_meet
   case rel => exact ⟨_, ((a0_0 == 3)), ev, H', ⟨om⟩, ⟨bk BK133⟩, ⟨bw⟩⟩
 case rest =>
  clear HC2
  (try clear z4_0 z4_1 z4_2 z4_3)
  (try clear f4_0 f4_1 f4_2 f4_3)
  obtain ⟨kq, x5_1, rfl, HA, HJ1, BK133, HB⟩ := hcut
  cases kq with
  | zero => exact absurd HA.out (by simp [spec_CtlOk.j0])
  | succ kj1 =>
   have H := HA.out
   clear HA
   simp only [spec_CtlOk.j0] at H
   replace H := ib H
   rcases H with ⟨rfl, H⟩ | ⟨rfl, H⟩
   ·replace H := ieq H
    rcases H with ⟨c7b0, c7b1, H⟩ | ⟨c7, c7b0, c7b1, H⟩
    ·replace H := ieq H
     rcases H with ⟨c8b0, c8b1, H⟩ | ⟨c8, c8b0, c8b1, H⟩
     ·obtain rfl := Option.some.inj H
      obtain ⟨z9_0, z9_1, z9_2, z9_3⟩ := ca4 BK133
      obtain ⟨f9_0, f9_1, f9_2, f9_3⟩ := fa4 BK133
      go_wp2
      go_ret
      exact ⟨rt, bw⟩
     ·obtain rfl := Option.some.inj H
      obtain ⟨z10_0, z10_1, z10_2, z10_3⟩ := ca4 BK133
      obtain ⟨f10_0, f10_1, f10_2, f10_3⟩ := fa4 BK133
      go_wp2
      go_ret
      exact ⟨rt, bw⟩
    ·obtain rfl := Option.some.inj H
     obtain ⟨z11_0, z11_1, z11_2, z11_3⟩ := ca4 BK133
     obtain ⟨f11_0, f11_1, f11_2, f11_3⟩ := fa4 BK133
     go_wp2
     go_ret
     exact ⟨rt, bw⟩
   ·replace H := ieq H
    rcases H with ⟨c12b0, c12b1, H⟩ | ⟨c12, c12b0, c12b1, H⟩
    ·replace H := bn H
     obtain ⟨t134, A13, H⟩ := H
     try dsimp only at H
     replace H := ib H
     rcases H with ⟨rfl, H⟩ | ⟨rfl, H⟩
     ·replace H := ieq H
      rcases H with ⟨c15b0, c15b1, H⟩ | ⟨c15, c15b0, c15b1, H⟩
      ·obtain rfl := Option.some.inj H
       try go_wp2
       replace BK133 := bd BK133
       replace HB := hd HB
       refine st 23 (fun w' => CA w' gb133 0 [.int .i64 a0_0, .int .i64 a0_1, .int .u32 a0_2, .int .i64 a0_3]) [] (cx BK133) spec_CtlOk.tab6 spec_CtlOk.bits6 ?_; intro hHeld HT_ HW_
       generalize wc.drew = w16 at BK133 HB hHeld ⊢
       refine pu 0 23 (bl 23 1) ?_
       refine tk 1 24 (bl 23 3) ?_
       refine on_ 2 (some 25) (bl 23 7) (fun K hK => ?_)
       refine gq Tryz.func71 (spec_l04Class.calls _ _ _ A13.out) ?_
       rintro e w' ⟨rfl, ⟨nd, rfl⟩⟩
       refine ⟨_, rfl, ?_⟩
       refine hK.out _ _ (cx BK133) (fun hHeld => ?_)
       clear hK K
       refine nm ?_
       refine pu 3 26 (bl 23 15) ?_
       refine pu 4 27 (bl 23 31) ?_
       refine tk 5 28 (bl 23 63) ?_
       refine pu 6 29 (bl 23 127) ?_
       refine pu 7 30 (bl 23 255) ?_
       refine pu 8 31 (bl 23 511) ?_
       refine pf 9 32 (bl 23 1023) ?_
       refine pf 10 33 (bl 23 2047) ?_
       refine pf 11 34 (bl 23 4095) ?_
       refine pf 12 35 (bl 23 8191) ?_
       refine pf 13 36 (bl 23 16383) ?_
       refine pf 14 37 (bl 23 32767) ?_
       refine pf 15 38 (bl 23 65535) ?_
       refine pu 16 39 (bl 23 131071) ?_
       refine pu 17 40 (bl 23 262143) ?_
       refine pf 18 41 (bl 23 524287) ?_
       refine pf 19 42 (bl 23 1048575) ?_
       refine pf 20 43 (bl 23 2097151) ?_
       refine pu 21 44 (bl 23 4194303) ?_
       refine pu 22 2 (bl 23 8388607) ?_
       refine dn ?_ _
       try go_wp2
       go_ret
       exact ⟨rt, bw⟩
      ·replace H := bn H
       obtain ⟨t135, A17, H⟩ := H
       try dsimp only at H
       replace H := bn H
       obtain ⟨t136, A18, H⟩ := H
       try dsimp only at H
       replace H := ilt H
       rcases H with ⟨c19b0, H⟩ | ⟨c19b0, H⟩
       ·obtain rfl := Option.some.inj H
        try go_wp2
        replace BK133 := bd BK133
        replace HB := hd HB
        refine st 23 (fun w' => CA w' gb133 0 [.int .i64 a0_0, .int .i64 a0_1, .int .u32 a0_2, .int .i64 a0_3]) [] (cx BK133) spec_CtlOk.tab6 spec_CtlOk.bits6 ?_; intro hHeld HT_ HW_
        generalize wc.drew = w20 at BK133 HB hHeld ⊢
        refine pu 0 23 (bl 23 1) ?_
        refine tk 1 24 (bl 23 3) ?_
        refine on_ 2 (some 25) (bl 23 7) (fun K hK => ?_)
        refine gq Tryz.func71 (spec_l04Class.calls _ _ _ A13.out) ?_
        rintro e w' ⟨rfl, ⟨nd, rfl⟩⟩
        refine ⟨_, rfl, ?_⟩
        refine hK.out _ _ (cx BK133) (fun hHeld => ?_)
        clear hK K
        refine nm ?_
        refine pu 3 26 (bl 23 15) ?_
        refine pu 4 27 (bl 23 31) ?_
        refine tk 5 28 (bl 23 63) ?_
        refine pu 6 29 (bl 23 127) ?_
        refine pu 7 30 (bl 23 255) ?_
        refine pu 8 31 (bl 23 511) ?_
        refine pu 9 32 (bl 23 1023) ?_
        refine pu 12 35 (bl 23 5119) ?_
        refine tk 10 33 (bl 23 6143) ?_
        refine tk 13 36 (bl 23 14335) ?_
        refine on_ 11 (some 34) (bl 23 16383) (fun K hK => ?_)
        refine gq Tryz.func69 (spec_Highest.calls _ _ _ _ A17.out) ?_
        rintro e w21 ⟨rfl, hb⟩
        refine ⟨_, rfl, ?_⟩
        replace BK133 := b_ BK133 hb
        replace HB := hs hb
        (try clear hb)
        refine hK.out _ _ (cx BK133) (fun hHeld => ?_)
        clear hK K
        refine nm ?_
        refine on_ 14 (some 37) (bl 23 32767) (fun K hK => ?_)
        refine gq Tryz.func72 (spec_PerPage.calls _ _ _ _ A18.out) ?_
        rintro e w' ⟨rfl, ⟨nd, rfl⟩⟩
        refine ⟨_, rfl, ?_⟩
        refine hK.out _ _ (cx BK133) (fun hHeld => ?_)
        clear hK K
        refine nm ?_
        refine pu 15 38 (bl 23 65535) ?_
        refine pu 16 39 (bl 23 131071) ?_
        refine pu 17 40 (bl 23 262143) ?_
        refine pu 18 41 (bl 23 524287) ?_
        refine tk 19 42 (bl 23 1048575) ?_
        refine pu 20 43 (bl 23 2097151) ?_
        refine pu 21 44 (bl 23 4194303) ?_
        refine pu 22 2 (bl 23 8388607) ?_
        refine dn ?_ _
        try go_wp2
        go_ret
        exact ⟨rt, bw⟩
       ·obtain rfl := Option.some.inj H
        try go_wp2
        replace BK133 := bd BK133
        replace HB := hd HB
        refine st 23 (fun w' => CA w' gb133 0 [.int .i64 a0_0, .int .i64 a0_1, .int .u32 a0_2, .int .i64 a0_3]) [] (cx BK133) spec_CtlOk.tab6 spec_CtlOk.bits6 ?_; intro hHeld HT_ HW_
        generalize wc.drew = w22 at BK133 HB hHeld ⊢
        refine pu 0 23 (bl 23 1) ?_
        refine tk 1 24 (bl 23 3) ?_
        refine on_ 2 (some 25) (bl 23 7) (fun K hK => ?_)
        refine gq Tryz.func71 (spec_l04Class.calls _ _ _ A13.out) ?_
        rintro e w' ⟨rfl, ⟨nd, rfl⟩⟩
        refine ⟨_, rfl, ?_⟩
        refine hK.out _ _ (cx BK133) (fun hHeld => ?_)
        clear hK K
        refine nm ?_
        refine pu 3 26 (bl 23 15) ?_
        refine pu 4 27 (bl 23 31) ?_
        refine tk 5 28 (bl 23 63) ?_
        refine pu 6 29 (bl 23 127) ?_
        refine pu 7 30 (bl 23 255) ?_
        refine pu 8 31 (bl 23 511) ?_
        refine pu 9 32 (bl 23 1023) ?_
        refine pu 12 35 (bl 23 5119) ?_
        refine tk 10 33 (bl 23 6143) ?_
        refine tk 13 36 (bl 23 14335) ?_
        refine on_ 11 (some 34) (bl 23 16383) (fun K hK => ?_)
        refine gq Tryz.func69 (spec_Highest.calls _ _ _ _ A17.out) ?_
        rintro e w23 ⟨rfl, hb⟩
        refine ⟨_, rfl, ?_⟩
        replace BK133 := b_ BK133 hb
        replace HB := hs hb
        (try clear hb)
        refine hK.out _ _ (cx BK133) (fun hHeld => ?_)
        clear hK K
        refine nm ?_
        refine on_ 14 (some 37) (bl 23 32767) (fun K hK => ?_)
        refine gq Tryz.func72 (spec_PerPage.calls _ _ _ _ A18.out) ?_
        rintro e w' ⟨rfl, ⟨nd, rfl⟩⟩
        refine ⟨_, rfl, ?_⟩
        refine hK.out _ _ (cx BK133) (fun hHeld => ?_)
        clear hK K
        refine nm ?_
        refine pu 15 38 (bl 23 65535) ?_
        refine pu 16 39 (bl 23 131071) ?_
        refine pu 17 40 (bl 23 262143) ?_
        refine pf 18 41 (bl 23 524287) ?_
        refine pf 19 42 (bl 23 1048575) ?_
        refine pf 20 43 (bl 23 2097151) ?_
        refine pu 21 44 (bl 23 4194303) ?_
        refine pu 22 2 (bl 23 8388607) ?_
        refine dn ?_ _
        try go_wp2
        go_ret
        exact ⟨rt, bw⟩
     ·obtain rfl := Option.some.inj H
      try go_wp2
      replace BK133 := bd BK133
      replace HB := hd HB
      refine st 23 (fun w' => CA w' gb133 0 [.int .i64 a0_0, .int .i64 a0_1, .int .u32 a0_2, .int .i64 a0_3]) [] (cx BK133) spec_CtlOk.tab6 spec_CtlOk.bits6 ?_; intro hHeld HT_ HW_
      generalize wc.drew = w24 at BK133 HB hHeld ⊢
      refine pu 0 23 (bl 23 1) ?_
      refine tk 1 24 (bl 23 3) ?_
      refine on_ 2 (some 25) (bl 23 7) (fun K hK => ?_)
      refine gq Tryz.func71 (spec_l04Class.calls _ _ _ A13.out) ?_
      rintro e w' ⟨rfl, ⟨nd, rfl⟩⟩
      refine ⟨_, rfl, ?_⟩
      refine hK.out _ _ (cx BK133) (fun hHeld => ?_)
      clear hK K
      refine nm ?_
      refine pu 3 26 (bl 23 15) ?_
      refine pf 4 27 (bl 23 31) ?_
      refine pf 5 28 (bl 23 63) ?_
      refine pf 6 29 (bl 23 127) ?_
      refine pu 7 30 (bl 23 255) ?_
      refine pu 8 31 (bl 23 511) ?_
      refine pf 9 32 (bl 23 1023) ?_
      refine pf 10 33 (bl 23 2047) ?_
      refine pf 11 34 (bl 23 4095) ?_
      refine pf 12 35 (bl 23 8191) ?_
      refine pf 13 36 (bl 23 16383) ?_
      refine pf 14 37 (bl 23 32767) ?_
      refine pf 15 38 (bl 23 65535) ?_
      refine pu 16 39 (bl 23 131071) ?_
      refine pu 17 40 (bl 23 262143) ?_
      refine pf 18 41 (bl 23 524287) ?_
      refine pf 19 42 (bl 23 1048575) ?_
      refine pf 20 43 (bl 23 2097151) ?_
      refine pu 21 44 (bl 23 4194303) ?_
      refine pu 22 2 (bl 23 8388607) ?_
      refine dn ?_ _
      try go_wp2
      go_ret
      exact ⟨rt, bw⟩
    ·replace H := ieq H
     rcases H with ⟨c25b0, c25b1, H⟩ | ⟨c25, c25b0, c25b1, H⟩
     ·replace H := ieq H
      rcases H with ⟨c26b0, c26b1, H⟩ | ⟨c26, c26b0, c26b1, H⟩
      ·replace H := ieq H
       rcases H with ⟨c27b0, c27b1, H⟩ | ⟨c27, c27b0, c27b1, H⟩
       ·replace H := ige H
        rcases H with ⟨c28b0, H⟩ | ⟨c28b0, H⟩
        ·obtain rfl := Option.some.inj H
         obtain ⟨z29_0, z29_1, z29_2, z29_3⟩ := ca4 BK133
         obtain ⟨f29_0, f29_1, f29_2, f29_3⟩ := fa4 BK133
         go_wp2
         go_ret
         exact ⟨rt, bw⟩
        ·obtain rfl := Option.some.inj H
         obtain ⟨z30_0, z30_1, z30_2, z30_3⟩ := ca4 BK133
         obtain ⟨f30_0, f30_1, f30_2, f30_3⟩ := fa4 BK133
         go_wp2
         go_ret
         exact ⟨rt, bw⟩
       ·obtain rfl := Option.some.inj H
        obtain ⟨z31_0, z31_1, z31_2, z31_3⟩ := ca4 BK133
        obtain ⟨f31_0, f31_1, f31_2, f31_3⟩ := fa4 BK133
        go_wp2
        go_ret
        exact ⟨rt, bw⟩
      ·obtain rfl := Option.some.inj H
       obtain ⟨z32_0, z32_1, z32_2, z32_3⟩ := ca4 BK133
       obtain ⟨f32_0, f32_1, f32_2, f32_3⟩ := fa4 BK133
       go_wp2
       go_ret
       exact ⟨rt, bw⟩
     ·obtain rfl := Option.some.inj H
      go_wp2
      go_ret
      exact ⟨rt, bw⟩

end Go.Proofs.YtfhcnnkeokjfpaaGreatDoor.PO1
namespace Go.Proofs.YtfhcnnkeokjfpaaGreatDoor.PO1
open Go.RowKit Go.Proofs.YtfhcnnkeokjfpaaGreatDoorW.PrintWords Go.Proofs.YtfhcnnkeokjfpaaGreatDoorW.PrintLast Go.Proofs.YtfhcnnkeokjfpaaGreatDoorW.PrintMore Go.Proofs.YtfhcnnkeokjfpaaGreatDoor.T
attribute [local go_sem] max2_int min2_int max_two min_two max_three min_three max_four min_four   -- for this text's walks alone
set_option linter.unusedVariables false
set_option linter.unusedSimpArgs false

/-! ### spec_CtlRead: function 28 -/
def spec_CtlRead.f (k : Nat) (a0 : Int) : Option (Int × Int × Int × Int × Bool) := (spec_CtlOk.f k (Int.tmod (wrap64 (Int.tdiv (wrap64 (a0)) 1048576)) 16) (Int.tmod (wrap64 (Int.tdiv (wrap64 (a0)) 65536)) 16) ((Int.tmod (wrap64 (a0)) 65536) % 4294967296) (wrap64 (Int.tdiv (wrap64 (a0)) 16777216))).bind fun t139 => (if t139 = true then (some (Int.tmod (wrap64 (Int.tdiv (wrap64 (a0)) 1048576)) 16, Int.tmod (wrap64 (Int.tdiv (wrap64 (a0)) 65536)) 16, (Int.tmod (wrap64 (a0)) 65536) % 4294967296, wrap64 (Int.tdiv (wrap64 (a0)) 16777216), true)) else (some (0, 0, 0, 0, false)))
theorem spec_CtlRead.mono : ∀ a0 k, LeO (spec_CtlRead.f k a0) (spec_CtlRead.f (k + 1) a0) := by
 intro a0 k
 unfold spec_CtlRead.f
 repeat' first
  | (with_reducible first | exact spec_CtlOk.mono .. | exact LeO.refl _ | exact LeO.none _ | refine LeO.ite ?_ ?_ | refine LeO.bind ?_ (fun _ => ?_))
  | exact LeO.none _ | refine LeO.ite ?_ ?_ | refine LeO.bind ?_ (fun _ => ?_)
set_option maxHeartbeats 2000000 in
set_option maxRecDepth 100000 in
theorem spec_CtlRead.calls (k : Nat) (a0 : Int) (r1 : Int) (r2 : Int) (r3 : Int) (r4 : Int) (r5 : Bool) (w : World) (h : spec_CtlRead.f k a0 = some (r1, r2, r3, r4, r5)) :
  Calls Tryz.prog 28 #[.int .u32 a0] w fun e w' => e = .returned (.tuple #[.agg #[.int .i64 r1, .int .i64 r2, .int .u32 r3, .int .i64 r4], .bool r5]) ∧ Below w.heap.size w w' := by
 have hu61 := Tryz.underlying61
 have HB := Aside0.mk (Below.refl w.heap.size w)
 unfold spec_CtlRead.f at h
 have H := h
 clear h
 replace H := bn H
 obtain ⟨t139, A2, H⟩ := H
 try dsimp only at H
 have HU3 := Aside0.mk H
 clear H
 go_enter Tryz.func28, Tryz.ntmps28
 go_upto_if 22 with (first | ((with_reducible refine gd 2 ?_); refine bx 2 61 #[.int .i64 0, .int .i64 0, .int .u32 0, .int .i64 0] ?_; clear HB; intro gb137 w4 hg BK137 hb GE137 HB; clear hb hg) | ((with_reducible refine gd 5 ?_); refine bx 5 61 #[.int .i64 0, .int .i64 0, .int .u32 0, .int .i64 0] ?_; clear HB; intro gb138 w5 hg BK138 hb GE138 HB; have NB137_138 := nl BK137 hg; have NB138_137 := ng BK137 hg; replace BK137 := b_ BK137 hb; clear hb hg; have hnb6 := NB138_137.out; have hnc6 := NB137_138.out; obtain ⟨z7_0, z7_1, z7_2, z7_3⟩ := ca4 BK138; obtain ⟨f7_0, f7_1, f7_2, f7_3⟩ := fa4 BK138) | ((with_reducible refine gf 54 ?_); refine gc Tryz.func54 (some 21) (spec_CtlOk.calls _ _ _ _ _ _ _ A2.out) ?_; rintro e w8 ⟨rfl, hb⟩; refine ⟨_, rfl, ?_⟩; replace BK137 := b_ BK137 hb; replace BK138 := bq BK138 #[.int .i64 (Int.tmod (wrap64 (Int.tdiv (wrap64 (a0)) 1048576)) 16), .int .i64 (Int.tmod (wrap64 (Int.tdiv (wrap64 (a0)) 65536)) 16), .int .u32 ((Int.tmod (wrap64 (a0)) 65536) % 4294967296), .int .i64 (wrap64 (Int.tdiv (wrap64 (a0)) 16777216))] hb; replace HB := hs hb; try clear hb))
 (try refine ap ?_)
 have H := HU3.out
 clear HU3
 replace H := ib H
 rcases H with ⟨rfl, H⟩ | ⟨rfl, H⟩
 ·(try simp only [Bool.not_true, Bool.not_false])
  simp only [Option.some.injEq, Prod.mk.injEq] at H
  obtain ⟨rfl, rfl, rfl, rfl, rfl⟩ := H
  have hnb10 := NB138_137.out
  have hnc10 := NB137_138.out
  obtain ⟨z11_0, z11_1, z11_2, z11_3⟩ := ca4 BK138
  obtain ⟨f11_0, f11_1, f11_2, f11_3⟩ := fa4 BK138
  obtain ⟨z12_0, z12_1, z12_2, z12_3⟩ := ca4 BK137
  obtain ⟨f12_0, f12_1, f12_2, f12_3⟩ := fa4 BK137
  go_wp2
  refine bodyPost_ret (results_ct rfl _ _ gb137 61 #[.int .i64 (Int.tmod (wrap64 (Int.tdiv (wrap64 (a0)) 1048576)) 16), .int .i64 (Int.tmod (wrap64 (Int.tdiv (wrap64 (a0)) 65536)) 16), .int .u32 ((Int.tmod (wrap64 (a0)) 65536) % 4294967296), .int .i64 (wrap64 (Int.tdiv (wrap64 (a0)) 16777216))] (0, 0) _ rfl (bp BK137) Tryz.underlying61 rfl kr) rfl ?_
  exact ⟨rt, bw⟩
 ·(try simp only [Bool.not_true, Bool.not_false])
  simp only [Option.some.injEq, Prod.mk.injEq] at H
  obtain ⟨rfl, rfl, rfl, rfl, rfl⟩ := H
  have hnb13 := NB137_138.out
  have hnc13 := NB138_137.out
  obtain ⟨z14_0, z14_1, z14_2, z14_3⟩ := ca4 BK137
  obtain ⟨f14_0, f14_1, f14_2, f14_3⟩ := fa4 BK137
  go_wp2
  refine bodyPost_ret (results_ct rfl _ _ gb137 61 #[.int .i64 0, .int .i64 0, .int .u32 0, .int .i64 0] (0, 0) _ rfl (bp BK137) Tryz.underlying61 rfl kr) rfl ?_
  exact ⟨rt, bw⟩

end Go.Proofs.YtfhcnnkeokjfpaaGreatDoor.PO1
namespace Go.Proofs.YtfhcnnkeokjfpaaGreatDoor.PO1
open Go.RowKit Go.Proofs.YtfhcnnkeokjfpaaGreatDoorW.PrintWords Go.Proofs.YtfhcnnkeokjfpaaGreatDoorW.PrintLast Go.Proofs.YtfhcnnkeokjfpaaGreatDoorW.PrintMore Go.Proofs.YtfhcnnkeokjfpaaGreatDoor.T
attribute [local go_sem] max2_int min2_int max_two min_two max_three min_three max_four min_four   -- for this text's walks alone
set_option linter.unusedVariables false
set_option linter.unusedSimpArgs false

/-! ### spec_l08Owners: function 16 -/
mutual
def spec_l08Owners.l0 : Nat → Int → List Int → Int → List Int → List (S59) → Option (List Int × Bool)
 | 0, _, _, _, _, _ => none
 | k + 1, x4, x5, x6, x141000, x141001 => if x6 < x4 then (if x5.length < 17592186044416 then (spec_l08Owners.l0 k x4 (x5 ++ [(-1)]) (wrap64 (x6 + 1)) x141000 x141001) else (none)) else (spec_l08Owners.l1 k x4 x5 0 x141000 x141001)
def spec_l08Owners.l1 : Nat → Int → List Int → Int → List Int → List (S59) → Option (List Int × Bool)
 | 0, _, _, _, _, _ => none
 | k + 1, x4, x5, x7, x141000, x141001 => if x7 < x4 then (if 0 ≤ x7 then (if x7 < (x141000.length : Int) then ((spec_CtlRead.f k (rd x141000 x7)).bind fun bt148 => (spec_l08Owners.l2 k x4 x5 x7 0 x141000 x141001 bt148.1 bt148.2.1 bt148.2.2.1 bt148.2.2.2.1)) else (none)) else (none)) else (spec_l08Owners.l3 k x4 x5 0 x141000 x141001)
def spec_l08Owners.l2 : Nat → Int → List Int → Int → Int → List Int → List (S59) → Int → Int → Int → Int → Option (List Int × Bool)
 | 0, _, _, _, _, _, _, _, _, _, _ => none
 | k + 1, x4, x5, x7, x10, x141000, x141001, x154000, x154001, x154002, x154003 => if x10 < x154003 then (if (wrap64 (x7 + x10)) ≥ x4 then (some (([] : List Int), false)) else (if 0 ≤ (wrap64 (x7 + x10)) then (if (wrap64 (x7 + x10)) < (x5.length : Int) then (if (rd x5 (wrap64 (x7 + x10))) = (-1) then (spec_l08Owners.l2 k x4 (x5.set ((wrap64 (x7 + x10)) : Int).toNat (-2)) x7 (wrap64 (x10 + 1)) x141000 x141001 x154000 x154001 x154002 x154003) else (some (([] : List Int), false))) else (none)) else (none))) else (spec_l08Owners.l1 k x4 x5 (wrap64 (x7 + 1)) x141000 x141001)
def spec_l08Owners.l3 : Nat → Int → List Int → Int → List Int → List (S59) → Option (List Int × Bool)
 | 0, _, _, _, _, _ => none
 | k + 1, x4, x5, x11, x141000, x141001 => if x11 < (x141001.length : Int) then (spec_l08Owners.l4 k x4 x5 x11 0 x141000 x141001) else (spec_l08Owners.l5 k x4 x5 0 x141000 x141001)
def spec_l08Owners.l4 : Nat → Int → List Int → Int → Int → List Int → List (S59) → Option (List Int × Bool)
 | 0, _, _, _, _, _, _ => none
 | k + 1, x4, x5, x11, x12, x141000, x141001 => if 0 ≤ x11 then (if x11 < (x141001.length : Int) then (if x12 < ((rd_T59 x141001 x11).f6) then (if (wrap64 (((rd_T59 x141001 x11).f5) + x12)) ≥ x4 then (some (([] : List Int), false)) else (if 0 ≤ (wrap64 (((rd_T59 x141001 x11).f5) + x12)) then (if (wrap64 (((rd_T59 x141001 x11).f5) + x12)) < (x5.length : Int) then (if (rd x5 (wrap64 (((rd_T59 x141001 x11).f5) + x12))) = (-1) then (spec_l08Owners.l4 k x4 (x5.set ((wrap64 (((rd_T59 x141001 x11).f5) + x12)) : Int).toNat x11) x11 (wrap64 (x12 + 1)) x141000 x141001) else (some (([] : List Int), false))) else (none)) else (none))) else (spec_l08Owners.l3 k x4 x5 (wrap64 (x11 + 1)) x141000 x141001)) else (none)) else (none)
def spec_l08Owners.l5 : Nat → Int → List Int → Int → List Int → List (S59) → Option (List Int × Bool)
 | 0, _, _, _, _, _ => none
 | k + 1, x4, x5, x14, x141000, x141001 => if x14 < x4 then (if 0 ≤ x14 then (if x14 < (x141000.length : Int) then ((spec_CtlRead.f k (rd x141000 x14)).bind fun bt161 => (if x14 < (x5.length : Int) then (if (rd x5 x14) = (-1) then (if bt161.1 = 3 then (some (([] : List Int), false)) else (if bt161.1 = 2 then (some (([] : List Int), false)) else (if (rd x5 x14) ≥ 0 then (some (([] : List Int), false)) else (if (rd x5 x14) = (-2) then (some (([] : List Int), false)) else (spec_l08Owners.l5 k x4 x5 (wrap64 (x14 + 1)) x141000 x141001))))) else (if (rd x5 x14) ≥ 0 then (if bt161.1 = 3 then (if (rd x5 x14) = (-2) then (spec_l08Owners.l5 k x4 x5 (wrap64 (x14 + 1)) x141000 x141001) else (spec_l08Owners.l5 k x4 x5 (wrap64 (x14 + 1)) x141000 x141001)) else (some (([] : List Int), false))) else (if (rd x5 x14) = (-2) then (if bt161.1 = 3 then (spec_l08Owners.l5 k x4 x5 (wrap64 (x14 + 1)) x141000 x141001) else (if bt161.1 = 2 then (spec_l08Owners.l5 k x4 x5 (wrap64 (x14 + 1)) x141000 x141001) else (some (([] : List Int), false)))) else (spec_l08Owners.l5 k x4 x5 (wrap64 (x14 + 1)) x141000 x141001)))) else (none))) else (none)) else (none)) else (some (x5, true))
end
def spec_l08Owners.f (k : Nat) (l0_0 : List Int) (l0_1 : List (S59)) : Option (List Int × Bool) := spec_l08Owners.l0 k (l0_0.length : Int) (([] : List Int)) 0 l0_0 l0_1
theorem spec_l08Owners.mono_l : ∀ k, (∀ y0 y1 y2 y3 y4, LeO (spec_l08Owners.l0 k y0 y1 y2 y3 y4) (spec_l08Owners.l0 (k + 1) y0 y1 y2 y3 y4)) ∧ (∀ y0 y1 y2 y3 y4, LeO (spec_l08Owners.l1 k y0 y1 y2 y3 y4) (spec_l08Owners.l1 (k + 1) y0 y1 y2 y3 y4)) ∧ (∀ y0 y1 y2 y3 y4 y5 y6 y7 y8 y9, LeO (spec_l08Owners.l2 k y0 y1 y2 y3 y4 y5 y6 y7 y8 y9) (spec_l08Owners.l2 (k + 1) y0 y1 y2 y3 y4 y5 y6 y7 y8 y9)) ∧ (∀ y0 y1 y2 y3 y4, LeO (spec_l08Owners.l3 k y0 y1 y2 y3 y4) (spec_l08Owners.l3 (k + 1) y0 y1 y2 y3 y4)) ∧ (∀ y0 y1 y2 y3 y4 y5, LeO (spec_l08Owners.l4 k y0 y1 y2 y3 y4 y5) (spec_l08Owners.l4 (k + 1) y0 y1 y2 y3 y4 y5)) ∧ (∀ y0 y1 y2 y3 y4, LeO (spec_l08Owners.l5 k y0 y1 y2 y3 y4) (spec_l08Owners.l5 (k + 1) y0 y1 y2 y3 y4))
 | 0 => ⟨fun _ _ _ _ _ r h => by simp [spec_l08Owners.l0] at h, fun _ _ _ _ _ r h => by simp [spec_l08Owners.l1] at h, fun _ _ _ _ _ _ _ _ _ _ r h => by simp [spec_l08Owners.l2] at h, fun _ _ _ _ _ r h => by simp [spec_l08Owners.l3] at h, fun _ _ _ _ _ _ r h => by simp [spec_l08Owners.l4] at h, fun _ _ _ _ _ r h => by simp [spec_l08Owners.l5] at h⟩
 | k + 1 => by
  obtain ⟨ih0, ih1, ih2, ih3, ih4, ih5⟩ := spec_l08Owners.mono_l k
  refine ⟨?_, ?_, ?_, ?_, ?_, ?_⟩
  ·intro y0 y1 y2 y3 y4
   unfold spec_l08Owners.l0
   repeat' first
    | (with_reducible first | exact ih0 .. | exact ih1 .. | exact ih2 .. | exact ih3 .. | exact ih4 .. | exact ih5 .. | exact spec_CtlRead.mono .. | exact LeO.refl _ | exact LeO.none _ | refine LeO.ite ?_ ?_ | refine LeO.bind ?_ (fun _ => ?_))
    | exact LeO.none _ | refine LeO.ite ?_ ?_ | refine LeO.bind ?_ (fun _ => ?_)
  ·intro y0 y1 y2 y3 y4
   unfold spec_l08Owners.l1
   repeat' first
    | (with_reducible first | exact ih0 .. | exact ih1 .. | exact ih2 .. | exact ih3 .. | exact ih4 .. | exact ih5 .. | exact spec_CtlRead.mono .. | exact LeO.refl _ | exact LeO.none _ | refine LeO.ite ?_ ?_ | refine LeO.bind ?_ (fun _ => ?_))
    | exact LeO.none _ | refine LeO.ite ?_ ?_ | refine LeO.bind ?_ (fun _ => ?_)
  ·intro y0 y1 y2 y3 y4 y5 y6 y7 y8 y9
   unfold spec_l08Owners.l2
   repeat' first
    | (with_reducible first | exact ih0 .. | exact ih1 .. | exact ih2 .. | exact ih3 .. | exact ih4 .. | exact ih5 .. | exact spec_CtlRead.mono .. | exact LeO.refl _ | exact LeO.none _ | refine LeO.ite ?_ ?_ | refine LeO.bind ?_ (fun _ => ?_))
    | exact LeO.none _ | refine LeO.ite ?_ ?_ | refine LeO.bind ?_ (fun _ => ?_)
  ·intro y0 y1 y2 y3 y4
   unfold spec_l08Owners.l3
   repeat' first
    | (with_reducible first | exact ih0 .. | exact ih1 .. | exact ih2 .. | exact ih3 .. | exact ih4 .. | exact ih5 .. | exact spec_CtlRead.mono .. | exact LeO.refl _ | exact LeO.none _ | refine LeO.ite ?_ ?_ | refine LeO.bind ?_ (fun _ => ?_))
    | exact LeO.none _ | refine LeO.ite ?_ ?_ | refine LeO.bind ?_ (fun _ => ?_)
  ·intro y0 y1 y2 y3 y4 y5
   unfold spec_l08Owners.l4
   repeat' first
    | (with_reducible first | exact ih0 .. | exact ih1 .. | exact ih2 .. | exact ih3 .. | exact ih4 .. | exact ih5 .. | exact spec_CtlRead.mono .. | exact LeO.refl _ | exact LeO.none _ | refine LeO.ite ?_ ?_ | refine LeO.bind ?_ (fun _ => ?_))
    | exact LeO.none _ | refine LeO.ite ?_ ?_ | refine LeO.bind ?_ (fun _ => ?_)
  ·intro y0 y1 y2 y3 y4
   unfold spec_l08Owners.l5
   repeat' first
    | (with_reducible first | exact ih0 .. | exact ih1 .. | exact ih2 .. | exact ih3 .. | exact ih4 .. | exact ih5 .. | exact spec_CtlRead.mono .. | exact LeO.refl _ | exact LeO.none _ | refine LeO.ite ?_ ?_ | refine LeO.bind ?_ (fun _ => ?_))
    | exact LeO.none _ | refine LeO.ite ?_ ?_ | refine LeO.bind ?_ (fun _ => ?_)
theorem spec_l08Owners.mono : ∀ a0 a1 k, LeO (spec_l08Owners.f k a0 a1) (spec_l08Owners.f (k + 1) a0 a1) := by
 intro a0 a1 k
 obtain ⟨ih0, ih1, ih2, ih3, ih4, ih5⟩ := spec_l08Owners.mono_l k
 unfold spec_l08Owners.f
 repeat' first
  | (with_reducible first | exact ih0 .. | exact ih1 .. | exact ih2 .. | exact ih3 .. | exact ih4 .. | exact ih5 .. | exact spec_CtlRead.mono .. | exact LeO.refl _ | exact LeO.none _ | refine LeO.ite ?_ ?_ | refine LeO.bind ?_ (fun _ => ?_))
  | exact LeO.none _ | refine LeO.ite ?_ ?_ | refine LeO.bind ?_ (fun _ => ?_)
set_option maxHeartbeats 8000000 in
set_option maxRecDepth 100000 in
theorem spec_l08Owners.calls (k : Nat) (A0_0 : Option Addr) (c0_0 : Nat) (l0_0 : List Int) (A0_1 : Option Addr) (c0_1 : Nat) (l0_1 : List (S59)) (r1 : List Int) (r2 : Bool) (w : World) (hr0_0 : Kd.C (Kd.int .u32) w A0_0 l0_0.length l0_0) (hc0_0 : l0_0.length ≤ c0_0) (hr0_1 : Kd.C k59 w A0_1 l0_1.length l0_1) (hc0_1 : l0_1.length ≤ c0_1) (h : spec_l08Owners.f k l0_0 l0_1 = some (r1, r2)) :
  Calls Tryz.prog 16 #[.agg #[.slice A0_0 l0_0.length c0_0, .slice A0_1 l0_1.length c0_1]] w fun e w' => ∃ v0_ : Value, e = .returned (.tuple #[v0_, .bool r2]) ∧ Kd.R (Kd.int .i64) 3 w' w.heap.size (fun _ => True) v0_ r1 ∧ Below w.heap.size w w' := by
 have hu34 := Tryz.underlying34
 have hu61 := Tryz.underlying61
 have HR0_0 := Aside0.mk hr0_0
 have HC0_0 := Aside0.mk hc0_0
 clear hr0_0 hc0_0
 have HR0_1 := Aside0.mk hr0_1
 have HC0_1 := Aside0.mk hc0_1
 clear hr0_1 hc0_1
 have HB := Aside0.mk (Below.refl w.heap.size w)
 unfold spec_l08Owners.f at h
 have H := h
 clear h
 obtain ⟨y141, hy141⟩ : ∃ y_ : List Int, y_ = (([] : List Int)) := ⟨_, rfl⟩
 rw [← hy141] at H
 try with_reducible replace H := bs H
 have Ny141 := Aside0.mk hy141
 clear hy141
 have H' := Aside0.mk H
 clear H
 go_enter Tryz.func16, Tryz.ntmps16
 go_wp2_with (first | ((with_reducible refine gd 1 ?_); refine bx 1 34 #[.slice A0_0 l0_0.length c0_0, .slice A0_1 l0_1.length c0_1] ?_; clear HB; intro gb140 w2 hg BK140 hb GE140 HB; clear hb hg; obtain ⟨z3_0, z3_1⟩ := ca2 BK140; obtain ⟨f3_0, f3_1⟩ := fa2 BK140) | ((with_reducible refine gate_dst (N := 23) rfl ?_); refine Kd.R_lit (Kd.int .i64) _ 3 ?hg (N := 23) ?hd (xs := ([] : List Int)) (inner := []) (ok := fun _ => True) (okp := fun _ => True) ?hr ?hp (fun _ hk => hk) trivial (Below.refl _ _) (Nat.le_refl _) (by simp) ?_; (case hd => rfl); (case hg => rfl); (case hr => first | (go_simp; done) | (go_simp; rfl)); (case hp => exact (Reps.none _ _)); intro v142 w4 ho5 hb hg_ hnew_; clear hg_ hnew_; (first | rw [← Ny141.out] at ho5 | (simp only [Int.reduceToNat] at ho5; rw [← Ny141.out] at ho5)); have HO143 := Aside0.mk (Kd.R_lower ho5 (below_size bw)); replace BK140 := b_ BK140 hb; replace HB := hs hb; clear hb ho5))
 go_loopg [5, 6] k (fun kq v5 v6 w' => ∃ (x5_1 : List Int) (x6_1 : Int), v6 = .int .i64 x6_1 ∧ Aside0 (spec_l08Owners.l0 kq (l0_0.length : Int) x5_1 x6_1 l0_0 l0_1 = some (r1, r2)) ∧ Aside0 (kq ≤ k) ∧ Aside0 (Kd.R (Kd.int .i64) 3 w' w.heap.size (fun _ => True) v5 x5_1) ∧ Aside0 (w'.heap[gb140]? = some (.cells #[(.slice A0_0 l0_0.length c0_0), (.slice A0_1 l0_1.length c0_1)] 34 (0, 0))) ∧ Aside0 (Below w.heap.size w w'))
 case atStart => exact ⟨(y141), (0), ev, H', ⟨Nat.le_refl _⟩, ⟨ro HO143⟩, ⟨bk BK140⟩, ⟨bw⟩⟩
 case round =>
  clear H'
  (try clear z3_0 z3_1)
  (try clear f3_0 f3_1)
  obtain ⟨x5_1, x6_1, rfl, HA, HK1, HO_5, BK140, HB⟩ := hrel
  cases gk with
  | zero => exact absurd HA.out (by simp [spec_l08Owners.l0])
  | succ k1 =>
   have H := HA.out
   clear HA
   simp only [spec_l08Owners.l0] at H
   replace H := ilt H
   rcases H with ⟨c6b0, H⟩ | ⟨c6b0, H⟩
   ·by_cases c7 : x5_1.length < 17592186044416
    ·rw [if_pos c7] at H
     have LMc7 := Aside0.mk c7
     clear c7
     obtain ⟨y144, hy144⟩ : ∃ y_ : List Int, y_ = (x5_1 ++ [(-1)]) := ⟨_, rfl⟩
     rw [← hy144] at H
     try with_reducible replace H := bs H
     have Ny144 := Aside0.mk hy144
     clear hy144
     have H' := Aside0.mk H
     clear H
     go_wp2_with (first | ((with_reducible refine gate_builtin (b := .append) (xs := #[.tmp 29, .tmp 30]) rfl ?_); at_builtin; refine Kd.R_append (Kd.int .i64) (w0 := w) w.heap.size rfl (.tmp 29) (.tmp 30) 29 3 (.int .i64 0) 8 rfl Tryz.underlying29 info3 rfl (by decide) (by omega) u5 x5_1 (-1) [.int .i64 (-1)] (fun _ => True) (fun _ => False) rfl rfl ?aP (fun _ hk => hk.elim) ?aF ?aO ?aB ?aS ?aL ?_; (case aP => exact rfl); (case aB => exact bw); (case aF => exact (fun _ _ => trivial)); (case aO => exact (ro HO_5)); (case aS => exact (below_size bw)); (case aL => have := LMc7.out; omega); intro v145 w8 ho hb hg hat; rw [← Ny144.out] at ho; replace BK140 := bg BK140 hg (Kd.R_ne HO_5.out BK140.out (by decide)); have HO146 := Aside0.mk (ho); replace HB := Aside0.mk (hb); clear HO_5; clear ho hb hg hat))
     go_roundg k1
     case measure => have := HK1.out; omega
     case rel => exact ⟨(y144), (wrap64 (x6_1 + 1)), ev, H', ⟨oa HK1⟩, ⟨ro HO146⟩, ⟨bk BK140⟩, ⟨bw⟩⟩
    ·rw [if_neg c7] at H
     exact absurd H (by simp)
   ·have H' := Aside0.mk H
    clear H
    go_wp2
    go_loopg [7] k1 (fun kq v7 w' => ∃ (x5_2 : List Int) (x7_2 : Int), v7 = .int .i64 x7_2 ∧ Aside0 (spec_l08Owners.l1 kq (l0_0.length : Int) x5_2 x7_2 l0_0 l0_1 = some (r1, r2)) ∧ Aside0 (kq ≤ k1) ∧ Aside0 (Kd.R (Kd.int .i64) 3 w' w.heap.size (fun _ => True) u5 x5_2) ∧ Aside0 (w'.heap[gb140]? = some (.cells #[(.slice A0_0 l0_0.length c0_0), (.slice A0_1 l0_1.length c0_1)] 34 (0, 0))) ∧ Aside0 (Below w.heap.size w w'))
    case atStart => exact ⟨(x5_1), (0), ev, H', ⟨Nat.le_refl _⟩, ⟨ro HO_5⟩, ⟨bk BK140⟩, ⟨bw⟩⟩
    case round =>
     clear H'
     try clear c6
     try clear c6b0
     (try clear z3_0 z3_1)
     (try clear f3_0 f3_1)
     obtain ⟨x5_2, x7_2, rfl, HA, HK2, HO_5, BK140, HB⟩ := hrel
     cases gk with
     | zero => exact absurd HA.out (by simp [spec_l08Owners.l1])
     | succ k2 =>
      have H := HA.out
      clear HA
      simp only [spec_l08Owners.l1] at H
      replace H := ilt H
      rcases H with ⟨c9b0, H⟩ | ⟨c9b0, H⟩
      ·by_cases c10 : 0 ≤ x7_2
       ·rw [if_pos c10] at H
        have c10b0 : decide (0 ≤ x7_2) = true := decide_eq_true c10
        clear c10
        by_cases c11 : x7_2 < (l0_0.length : Int)
        ·rw [if_pos c11] at H
         have c11b0 : decide (x7_2 < (l0_0.length : Int)) = true := decide_eq_true c11
         clear c11
         replace H := bn H
         obtain ⟨⟨t148, t149, t150, t151, t152⟩, A12, H⟩ := H
         try dsimp only at H
         have H' := Aside0.mk H
         clear H
         obtain ⟨z13_0, z13_1⟩ := ca2 BK140
         obtain ⟨f13_0, f13_1⟩ := fa2 BK140
         have p147 : 0 ≤ (x7_2 : Int) := of_decide_eq_true as_
         have q147 : x7_2 < (l0_0.length : Int) := of_decide_eq_true as_
         obtain ⟨ad147, e147, hx147_0⟩ := Kd.at_int HR0_0.out x7_2 p147 q147
         cases e147
         replace hx147_0 := cl HB hx147_0
         replace p147 := eq_true p147
         replace q147 := eq_true q147
         go_wp2_with (first | ((with_reducible refine gf 28 ?_); refine gc Tryz.func28 (some 44) (spec_CtlRead.calls _ _ _ _ _ _ _ _ A12.out) ?_; rintro e w14 ⟨rfl, hb⟩; refine ⟨_, rfl, ?_⟩; replace HO_5 := Aside0.mk (Kd.R_below (ro HO_5) hb); replace BK140 := b_ BK140 hb; replace HB := hs hb; try clear hb) | ((with_reducible refine gd 8 ?_); refine bx 8 61 #[.int .i64 0, .int .i64 0, .int .u32 0, .int .i64 0] ?_; clear HB; intro gb153 w15 hg BK153 hb GE153 HB; replace HO_5 := Aside0.mk (Kd.R_below (ro HO_5) hb); have NB140_153 := nl BK140 hg; have NB153_140 := ng BK140 hg; replace BK140 := b_ BK140 hb; clear hb hg; have hnb16 := NB153_140.out; have hnc16 := NB140_153.out; obtain ⟨z17_0, z17_1, z17_2, z17_3⟩ := ca4 BK153; obtain ⟨f17_0, f17_1, f17_2, f17_3⟩ := fa4 BK153))
         go_loopg [10] k2 (fun kq v10 w' => ∃ (x5_3 : List Int) (x10_3 : Int), v10 = .int .i64 x10_3 ∧ Aside0 (spec_l08Owners.l2 kq (l0_0.length : Int) x5_3 x7_2 x10_3 l0_0 l0_1 t148 t149 t150 t151 = some (r1, r2)) ∧ Aside0 (kq ≤ k2) ∧ Aside0 (Kd.R (Kd.int .i64) 3 w' w.heap.size (fun _ => True) u5 x5_3) ∧ Aside0 (w'.heap[gb140]? = some (.cells #[(.slice (some ad147) l0_0.length c0_0), (.slice A0_1 l0_1.length c0_1)] 34 (0, 0))) ∧ Aside0 (w'.heap[gb153]? = some (.cells #[.int .i64 t148, .int .i64 t149, .int .u32 t150, .int .i64 t151] 61 (0, 0))) ∧ Aside0 (Below w.heap.size w w'))
         case atStart => exact ⟨(x5_2), (0), ev, H', ⟨Nat.le_refl _⟩, ⟨by (with_reducible repeat (first | apply Kd.R_alloc | apply Kd.R_drewN | apply Kd.R_drew)); exact Kd.R_mono (Kd.R_far (p := ⟨gb153, 3, none⟩) (Kd.R_far (p := ⟨gb153, 2, none⟩) (Kd.R_far (p := ⟨gb153, 1, none⟩) (Kd.R_far (p := ⟨gb153, 0, none⟩) (Kd.R_types HO_5.out BK153.out (by decide)) (fun _ hk => hk.2) (.int .i64 t148)) (fun _ hk => hk.2) (.int .i64 t149)) (fun _ hk => hk.2) (.int .u32 t150)) (fun _ hk => hk.2) (.int .i64 t151)) (fun _ hk => trivial)⟩, ⟨bk BK140⟩, ⟨bp BK153⟩, ⟨bw⟩⟩
         case round =>
          clear H'
          try clear c6
          try clear c6b0
          try clear c9
          try clear c9b0
          try clear c10
          try clear c10b0
          try clear c11
          try clear c11b0
          (try clear z13_0 z13_1)
          (try clear z17_0 z17_1 z17_2 z17_3)
          (try clear z3_0 z3_1)
          (try clear f13_0 f13_1)
          (try clear f17_0 f17_1 f17_2 f17_3)
          (try clear f3_0 f3_1)
          try clear hx147_0
          try clear p147
          try clear q147
          obtain ⟨x5_3, x10_3, rfl, HA, HK3, HO_5, BK140, BK153, HB⟩ := hrel
          cases gk with
          | zero => exact absurd HA.out (by simp [spec_l08Owners.l2])
          | succ k3 =>
           have H := HA.out
           clear HA
           simp only [spec_l08Owners.l2] at H
           replace H := ilt H
           rcases H with ⟨c18b0, H⟩ | ⟨c18b0, H⟩
           ·replace H := ige H
            rcases H with ⟨c19b0, H⟩ | ⟨c19b0, H⟩
            ·simp only [Option.some.injEq, Prod.mk.injEq] at H
             obtain ⟨rfl, rfl⟩ := H
             have hnb20 := NB153_140.out
             have hnc20 := NB140_153.out
             obtain ⟨z21_0, z21_1, z21_2, z21_3⟩ := ca4 BK153
             obtain ⟨f21_0, f21_1, f21_2, f21_3⟩ := fa4 BK153
             go_wp2
             go_ret2
             exact ⟨_, rt, by first | exact Kd.R_nil _ _ _ _ _ | exact Kd.N_nil _ _ _ _ _ | exact Kd.V_nil _ _ _ _ _ | exact Kd.Q_nil _ _ _ _ _ | exact Kd.S_nil _ _ _ _ _, bw⟩
            ·obtain ⟨ji22, hji22⟩ : ∃ j_ : Int, (wrap64 (x7_2 + x10_3)) = j_ := ⟨_, rfl⟩
             first | rw [hji22] at H | simp only [hji22] at H
             (try rw [hji22] at c19b0)
             have hji22w : (IntKind.i64.wrap (x7_2 + x10_3)) = ji22 := (i64_w _).trans hji22
             by_cases c23 : 0 ≤ (ji22)
             ·rw [if_pos c23] at H
              have c23b0 : decide (0 ≤ (ji22)) = true := decide_eq_true c23
              clear c23
              by_cases c24 : (ji22) < (x5_3.length : Int)
              ·rw [if_pos c24] at H
               have c24b0 : decide ((ji22) < (x5_3.length : Int)) = true := decide_eq_true c24
               clear c24
               replace H := ieq H
               rcases H with ⟨c25b0, c25b1, H⟩ | ⟨c25, c25b0, c25b1, H⟩
               ·obtain ⟨y155, hy155⟩ : ∃ y_ : List Int, y_ = (x5_3.set ((ji22) : Int).toNat (-2)) := ⟨_, rfl⟩
                rw [← hy155] at H
                try with_reducible replace H := bs H
                have Ny155 := Aside0.mk hy155
                clear hy155
                have H' := Aside0.mk H
                clear H
                have hnb27 := NB153_140.out
                have hnc27 := NB140_153.out
                obtain ⟨z28_0, z28_1, z28_2, z28_3⟩ := ca4 BK153
                obtain ⟨f28_0, f28_1, f28_2, f28_3⟩ := fa4 BK153
                obtain ⟨Ao29, co29, eo29⟩ := Kd.R_slice HO_5.out
                subst eo29
                have p154 : 0 ≤ ((ji22) : Int) := of_decide_eq_true as_
                have q154 : (ji22) < (x5_3.length : Int) := of_decide_eq_true as_
                obtain ⟨ad154, e154, hx154_0⟩ := Kd.at_int (Kd.R_reads' HO_5.out).2.2 (ji22) p154 q154
                cases e154
                replace p154 := eq_true p154
                replace q154 := eq_true q154
                have p26 : 0 ≤ ((ji22) : Int) := of_decide_eq_true as_
                have q26 : ((ji22) : Int) < ((x5_3.length : Int) : Int) := of_decide_eq_true as_
                obtain ⟨go26, co26, eo26, gb26, gl26, cl26, HG26⟩ := Kd.R_form HO_5.out (by omega)
                (first | cases eo26 | (injection eo26 with ea_ en_ ec_; (first | subst ea_ | (injection ea_ with ea_; subst ea_)); subst ec_; clear en_))
                have GB26 := Aside0.mk gb26
                have GG26 := Aside0.mk HG26
                clear gb26 gl26 HG26
                (first | simp only [add_plain] at hx154_0 | skip)
                obtain ⟨hx26_0, hf26_0⟩ := Kd.R_celln 0 HO_5.out ((ji22) : Int) p26 q26
                replace p26 := eq_true p26
                replace q26 := eq_true q26
                have HP30 := Kd.R_putg HO_5.out ((ji22) : Int) (-2)
                go_wp2_with (first | ((with_reducible refine gate_store (t := 3) (p := 71) rfl ?_); refine store_event (t := 3) (p := 71) (v := ?vo_w31) (w1 := (wr.setCell ⟨go26, ((ji22) : Int).toNat, none⟩ (.int .i64 (-2)))) ?hg ?ho ?hn ?hr ?_; (case ho => rfl); (case hg => rfl); (case hn => rfl); (case hr => first | (go_simp; done) | (go_simp; rfl)); intro w31 hw; have hg : wr.grownBy w31 (some go26) := (by rw [hw]; exact HP30.2); have hp_ : Kd.R (Kd.int .i64) 3 w31 w.heap.size (fun _ => True) (.slice (some ⟨go26, 0, none⟩) x5_3.length co29) y155 := (by rw [hw, Ny155.out]; exact HP30.1); clear HP30; replace BK140 := bg BK140 hg (Kd.R_ne HO_5.out BK140.out (by decide)); replace BK153 := bg BK153 hg (Kd.R_ne HO_5.out BK153.out (by decide)); replace HO_5 := Aside0.mk (hp_); replace HB := Aside0.mk ((by rw [hw]; exact below_set (HB.out) GB26.out : Below w.heap.size w w31)); clear hg hw hp_))
                go_roundg k3
                case measure => have := HK1.out; have := HK2.out; have := HK3.out; omega
                case rel => exact ⟨(y155), (wrap64 (x10_3 + 1)), ev, H', ⟨by have := HK1.out; have := HK2.out; have := HK3.out; omega⟩, ⟨ro HO_5⟩, ⟨bk BK140⟩, ⟨bk BK153⟩, ⟨bw⟩⟩
               ·simp only [Option.some.injEq, Prod.mk.injEq] at H
                obtain ⟨rfl, rfl⟩ := H
                have hnb32 := NB153_140.out
                have hnc32 := NB140_153.out
                obtain ⟨z33_0, z33_1, z33_2, z33_3⟩ := ca4 BK153
                obtain ⟨f33_0, f33_1, f33_2, f33_3⟩ := fa4 BK153
                obtain ⟨Ao34, co34, eo34⟩ := Kd.R_slice HO_5.out
                subst eo34
                have p154 : 0 ≤ ((ji22) : Int) := of_decide_eq_true as_
                have q154 : (ji22) < (x5_3.length : Int) := of_decide_eq_true as_
                obtain ⟨ad154, e154, hx154_0⟩ := Kd.at_int (Kd.R_reads' HO_5.out).2.2 (ji22) p154 q154
                cases e154
                replace p154 := eq_true p154
                replace q154 := eq_true q154
                go_wp2
                go_ret2
                exact ⟨_, by first | exact rt1 | (simp only [← hji22]; exact rt1) | exact rt, by first | exact Kd.R_nil _ _ _ _ _ | exact Kd.N_nil _ _ _ _ _ | exact Kd.V_nil _ _ _ _ _ | exact Kd.Q_nil _ _ _ _ _ | exact Kd.S_nil _ _ _ _ _, bw⟩
              ·rw [if_neg c24] at H
               exact absurd H (by simp)
             ·rw [if_neg c23] at H
              exact absurd H (by simp)
           ·have H' := Aside0.mk H
            clear H
            have hnb35 := NB153_140.out
            have hnc35 := NB140_153.out
            obtain ⟨z36_0, z36_1, z36_2, z36_3⟩ := ca4 BK153
            obtain ⟨f36_0, f36_1, f36_2, f36_3⟩ := fa4 BK153
            go_wp2
            go_roundg k3
            case measure => have := HK1.out; have := HK2.out; have := HK3.out; omega
            case rel => exact ⟨(x5_3), (wrap64 (x7_2 + 1)), ev, H', ⟨by have := HK1.out; have := HK2.out; have := HK3.out; omega⟩, ⟨ro HO_5⟩, ⟨bk BK140⟩, ⟨bw⟩⟩
        ·rw [if_neg c11] at H
         exact absurd H (by simp)
       ·rw [if_neg c10] at H
        exact absurd H (by simp)
      ·have H' := Aside0.mk H
       clear H
       go_wp2
       go_loopg [11] k2 (fun kq v11 w' => ∃ (x5_3 : List Int) (x11_3 : Int), v11 = .int .i64 x11_3 ∧ Aside0 (spec_l08Owners.l3 kq (l0_0.length : Int) x5_3 x11_3 l0_0 l0_1 = some (r1, r2)) ∧ Aside0 (kq ≤ k2) ∧ Aside0 (Kd.R (Kd.int .i64) 3 w' w.heap.size (fun _ => True) u5 x5_3) ∧ Aside0 (w'.heap[gb140]? = some (.cells #[(.slice A0_0 l0_0.length c0_0), (.slice A0_1 l0_1.length c0_1)] 34 (0, 0))) ∧ Aside0 (Below w.heap.size w w'))
       case atStart => exact ⟨(x5_2), (0), ev, H', ⟨Nat.le_refl _⟩, ⟨ro HO_5⟩, ⟨bk BK140⟩, ⟨bw⟩⟩
       case round =>
        clear H'
        try clear c6
        try clear c6b0
        try clear c9
        try clear c9b0
        (try clear z3_0 z3_1)
        (try clear f3_0 f3_1)
        obtain ⟨x5_3, x11_3, rfl, HA, HK3, HO_5, BK140, HB⟩ := hrel
        cases gk with
        | zero => exact absurd HA.out (by simp [spec_l08Owners.l3])
        | succ k3 =>
         have H := HA.out
         clear HA
         simp only [spec_l08Owners.l3] at H
         replace H := ilt H
         rcases H with ⟨c37b0, H⟩ | ⟨c37b0, H⟩
         ·have H' := Aside0.mk H
          clear H
          obtain ⟨z38_0, z38_1⟩ := ca2 BK140
          obtain ⟨f38_0, f38_1⟩ := fa2 BK140
          go_wp2
          go_loopg [12] k3 (fun kq v12 w' => ∃ (x5_4 : List Int) (x12_4 : Int), v12 = .int .i64 x12_4 ∧ Aside0 (spec_l08Owners.l4 kq (l0_0.length : Int) x5_4 x11_3 x12_4 l0_0 l0_1 = some (r1, r2)) ∧ Aside0 (kq ≤ k3) ∧ Aside0 (Kd.R (Kd.int .i64) 3 w' w.heap.size (fun _ => True) u5 x5_4) ∧ Aside0 (w'.heap[gb140]? = some (.cells #[(.slice A0_0 l0_0.length c0_0), (.slice A0_1 l0_1.length c0_1)] 34 (0, 0))) ∧ Aside0 (Below w.heap.size w w'))
          case atStart => exact ⟨(x5_3), (0), ev, H', ⟨Nat.le_refl _⟩, ⟨ro HO_5⟩, ⟨bk BK140⟩, ⟨bw⟩⟩
          case round =>
           clear H'
           try clear c6
           try clear c6b0
           try clear c9
           try clear c9b0
           try clear c37
           try clear c37b0
           (try clear z38_0 z38_1)
           (try clear z3_0 z3_1)
           (try clear f38_0 f38_1)
           (try clear f3_0 f3_1)
           obtain ⟨x5_4, x12_4, rfl, HA, HK4, HO_5, BK140, HB⟩ := hrel
           cases gk with
           | zero => exact absurd HA.out (by simp [spec_l08Owners.l4])
           | succ k4 =>
            have H := HA.out
            clear HA
            simp only [spec_l08Owners.l4] at H
            by_cases c39 : 0 ≤ x11_3
            ·rw [if_pos c39] at H
             have c39b0 : decide (0 ≤ x11_3) = true := decide_eq_true c39
             clear c39
             by_cases c40 : x11_3 < (l0_1.length : Int)
             ·rw [if_pos c40] at H
              have c40b0 : decide (x11_3 < (l0_1.length : Int)) = true := decide_eq_true c40
              clear c40
              replace H := ilt H
              rcases H with ⟨c41b0, H⟩ | ⟨c41b0, H⟩
              ·replace H := ige H
               rcases H with ⟨c42b0, H⟩ | ⟨c42b0, H⟩
               ·simp only [Option.some.injEq, Prod.mk.injEq] at H
                obtain ⟨rfl, rfl⟩ := H
                obtain ⟨z43_0, z43_1⟩ := ca2 BK140
                obtain ⟨f43_0, f43_1⟩ := fa2 BK140
                have p156 : 0 ≤ (x11_3 : Int) := of_decide_eq_true as_
                have q156 : x11_3 < (l0_1.length : Int) := of_decide_eq_true as_
                obtain ⟨ad156, A156_1, c156_1, A156_2, c156_2, e156, hx156_0, hx156_1, hx156_2, hx156_3, hx156_4, hx156_5, hx156_6, hx156_7, hl156_1, hi156_1, hl156_2, hi156_2⟩ := at_T59 HR0_1.out x11_3 p156 q156
                cases e156
                replace hx156_0 := cl HB hx156_0
                replace hx156_1 := cl HB hx156_1
                replace hx156_2 := cl HB hx156_2
                replace hx156_3 := cl HB hx156_3
                replace hx156_4 := cl HB hx156_4
                replace hx156_5 := cl HB hx156_5
                replace hx156_6 := cl HB hx156_6
                replace hx156_7 := cl HB hx156_7
                have HR156_1 := Aside0.mk hi156_1
                have HC156_1 := Aside0.mk hl156_1
                clear hi156_1 hl156_1
                have HR156_2 := Aside0.mk hi156_2
                have HC156_2 := Aside0.mk hl156_2
                clear hi156_2 hl156_2
                replace p156 := eq_true p156
                replace q156 := eq_true q156
                have p157 : 0 ≤ (x11_3 : Int) := of_decide_eq_true as_
                have q157 : x11_3 < (l0_1.length : Int) := of_decide_eq_true as_
                obtain ⟨ad157, A157_1, c157_1, A157_2, c157_2, e157, hx157_0, hx157_1, hx157_2, hx157_3, hx157_4, hx157_5, hx157_6, hx157_7, hl157_1, hi157_1, hl157_2, hi157_2⟩ := at_T59 HR0_1.out x11_3 p157 q157
                obtain rfl : ad156 = ad157 := (by injection e157)
                replace hx157_0 := cl HB hx157_0
                replace hx157_1 := cl HB hx157_1
                replace hx157_2 := cl HB hx157_2
                replace hx157_3 := cl HB hx157_3
                replace hx157_4 := cl HB hx157_4
                replace hx157_5 := cl HB hx157_5
                replace hx157_6 := cl HB hx157_6
                replace hx157_7 := cl HB hx157_7
                have HR157_1 := Aside0.mk hi157_1
                have HC157_1 := Aside0.mk hl157_1
                clear hi157_1 hl157_1
                have HR157_2 := Aside0.mk hi157_2
                have HC157_2 := Aside0.mk hl157_2
                clear hi157_2 hl157_2
                replace p157 := eq_true p157
                replace q157 := eq_true q157
                have ea_ := Option.some.inj (hx156_1.symm.trans hx157_1)
                injection ea_ with ea_ en_ ec_
                subst ea_
                subst ec_
                clear en_
                have ea_ := Option.some.inj (hx156_2.symm.trans hx157_2)
                injection ea_ with ea_ en_ ec_
                subst ea_
                subst ec_
                clear en_
                go_wp2
                go_ret2
                exact ⟨_, rt, by first | exact Kd.R_nil _ _ _ _ _ | exact Kd.N_nil _ _ _ _ _ | exact Kd.V_nil _ _ _ _ _ | exact Kd.Q_nil _ _ _ _ _ | exact Kd.S_nil _ _ _ _ _, bw⟩
               ·obtain ⟨ji44, hji44⟩ : ∃ j_ : Int, (wrap64 (((rd_T59 l0_1 x11_3).f5) + x12_4)) = j_ := ⟨_, rfl⟩
                first | rw [hji44] at H | simp only [hji44] at H
                (try rw [hji44] at c42b0)
                have hji44w : (IntKind.i64.wrap (((rd_T59 l0_1 x11_3).f5) + x12_4)) = ji44 := (i64_w _).trans hji44
                by_cases c45 : 0 ≤ (ji44)
                ·rw [if_pos c45] at H
                 have c45b0 : decide (0 ≤ (ji44)) = true := decide_eq_true c45
                 clear c45
                 by_cases c46 : (ji44) < (x5_4.length : Int)
                 ·rw [if_pos c46] at H
                  have c46b0 : decide ((ji44) < (x5_4.length : Int)) = true := decide_eq_true c46
                  clear c46
                  replace H := ieq H
                  rcases H with ⟨c47b0, c47b1, H⟩ | ⟨c47, c47b0, c47b1, H⟩
                  ·obtain ⟨y159, hy159⟩ : ∃ y_ : List Int, y_ = (x5_4.set ((ji44) : Int).toNat x11_3) := ⟨_, rfl⟩
                   rw [← hy159] at H
                   try with_reducible replace H := bs H
                   have Ny159 := Aside0.mk hy159
                   clear hy159
                   have H' := Aside0.mk H
                   clear H
                   obtain ⟨z49_0, z49_1⟩ := ca2 BK140
                   obtain ⟨f49_0, f49_1⟩ := fa2 BK140
                   have p156 : 0 ≤ (x11_3 : Int) := of_decide_eq_true as_
                   have q156 : x11_3 < (l0_1.length : Int) := of_decide_eq_true as_
                   obtain ⟨ad156, A156_1, c156_1, A156_2, c156_2, e156, hx156_0, hx156_1, hx156_2, hx156_3, hx156_4, hx156_5, hx156_6, hx156_7, hl156_1, hi156_1, hl156_2, hi156_2⟩ := at_T59 HR0_1.out x11_3 p156 q156
                   cases e156
                   replace hx156_0 := cl HB hx156_0
                   replace hx156_1 := cl HB hx156_1
                   replace hx156_2 := cl HB hx156_2
                   replace hx156_3 := cl HB hx156_3
                   replace hx156_4 := cl HB hx156_4
                   replace hx156_5 := cl HB hx156_5
                   replace hx156_6 := cl HB hx156_6
                   replace hx156_7 := cl HB hx156_7
                   have HR156_1 := Aside0.mk hi156_1
                   have HC156_1 := Aside0.mk hl156_1
                   clear hi156_1 hl156_1
                   have HR156_2 := Aside0.mk hi156_2
                   have HC156_2 := Aside0.mk hl156_2
                   clear hi156_2 hl156_2
                   replace p156 := eq_true p156
                   replace q156 := eq_true q156
                   have p157 : 0 ≤ (x11_3 : Int) := of_decide_eq_true as_
                   have q157 : x11_3 < (l0_1.length : Int) := of_decide_eq_true as_
                   obtain ⟨ad157, A157_1, c157_1, A157_2, c157_2, e157, hx157_0, hx157_1, hx157_2, hx157_3, hx157_4, hx157_5, hx157_6, hx157_7, hl157_1, hi157_1, hl157_2, hi157_2⟩ := at_T59 HR0_1.out x11_3 p157 q157
                   obtain rfl : ad156 = ad157 := (by injection e157)
                   replace hx157_0 := cl HB hx157_0
                   replace hx157_1 := cl HB hx157_1
                   replace hx157_2 := cl HB hx157_2
                   replace hx157_3 := cl HB hx157_3
                   replace hx157_4 := cl HB hx157_4
                   replace hx157_5 := cl HB hx157_5
                   replace hx157_6 := cl HB hx157_6
                   replace hx157_7 := cl HB hx157_7
                   have HR157_1 := Aside0.mk hi157_1
                   have HC157_1 := Aside0.mk hl157_1
                   clear hi157_1 hl157_1
                   have HR157_2 := Aside0.mk hi157_2
                   have HC157_2 := Aside0.mk hl157_2
                   clear hi157_2 hl157_2
                   replace p157 := eq_true p157
                   replace q157 := eq_true q157
                   have ea_ := Option.some.inj (hx156_1.symm.trans hx157_1)
                   injection ea_ with ea_ en_ ec_
                   subst ea_
                   subst ec_
                   clear en_
                   have ea_ := Option.some.inj (hx156_2.symm.trans hx157_2)
                   injection ea_ with ea_ en_ ec_
                   subst ea_
                   subst ec_
                   clear en_
                   obtain ⟨Ao50, co50, eo50⟩ := Kd.R_slice HO_5.out
                   subst eo50
                   have p158 : 0 ≤ ((ji44) : Int) := of_decide_eq_true as_
                   have q158 : (ji44) < (x5_4.length : Int) := of_decide_eq_true as_
                   obtain ⟨ad158, e158, hx158_0⟩ := Kd.at_int (Kd.R_reads' HO_5.out).2.2 (ji44) p158 q158
                   cases e158
                   replace p158 := eq_true p158
                   replace q158 := eq_true q158
                   have p48 : 0 ≤ ((ji44) : Int) := of_decide_eq_true as_
                   have q48 : ((ji44) : Int) < ((x5_4.length : Int) : Int) := of_decide_eq_true as_
                   obtain ⟨go48, co48, eo48, gb48, gl48, cl48, HG48⟩ := Kd.R_form HO_5.out (by omega)
                   (first | cases eo48 | (injection eo48 with ea_ en_ ec_; (first | subst ea_ | (injection ea_ with ea_; subst ea_)); subst ec_; clear en_))
                   have GB48 := Aside0.mk gb48
                   have GG48 := Aside0.mk HG48
                   clear gb48 gl48 HG48
                   (first | simp only [add_plain] at hx158_0 | skip)
                   obtain ⟨hx48_0, hf48_0⟩ := Kd.R_celln 0 HO_5.out ((ji44) : Int) p48 q48
                   replace p48 := eq_true p48
                   replace q48 := eq_true q48
                   have HP51 := Kd.R_putg HO_5.out ((ji44) : Int) x11_3
                   go_wp2_with (first | ((with_reducible refine gate_store (t := 3) (p := 110) rfl ?_); refine store_event (t := 3) (p := 110) (v := ?vo_w52) (w1 := (wr.setCell ⟨go48, ((ji44) : Int).toNat, none⟩ (.int .i64 x11_3))) ?hg ?ho ?hn ?hr ?_; (case ho => rfl); (case hg => rfl); (case hn => rfl); (case hr => first | (go_simp; done) | (go_simp; rfl)); intro w52 hw; have hg : wr.grownBy w52 (some go48) := (by rw [hw]; exact HP51.2); have hp_ : Kd.R (Kd.int .i64) 3 w52 w.heap.size (fun _ => True) (.slice (some ⟨go48, 0, none⟩) x5_4.length co50) y159 := (by rw [hw, Ny159.out]; exact HP51.1); clear HP51; replace BK140 := bg BK140 hg (Kd.R_ne HO_5.out BK140.out (by decide)); replace HO_5 := Aside0.mk (hp_); replace HB := Aside0.mk ((by rw [hw]; exact below_set (HB.out) GB48.out : Below w.heap.size w w52)); clear hg hw hp_))
                   go_roundg k4
                   case measure => have := HK1.out; have := HK2.out; have := HK3.out; have := HK4.out; omega
                   case rel => exact ⟨(y159), (wrap64 (x12_4 + 1)), ev, H', ⟨by have := HK1.out; have := HK2.out; have := HK3.out; have := HK4.out; omega⟩, ⟨ro HO_5⟩, ⟨bk BK140⟩, ⟨bw⟩⟩
                  ·simp only [Option.some.injEq, Prod.mk.injEq] at H
                   obtain ⟨rfl, rfl⟩ := H
                   obtain ⟨z53_0, z53_1⟩ := ca2 BK140
                   obtain ⟨f53_0, f53_1⟩ := fa2 BK140
                   have p156 : 0 ≤ (x11_3 : Int) := of_decide_eq_true as_
                   have q156 : x11_3 < (l0_1.length : Int) := of_decide_eq_true as_
                   obtain ⟨ad156, A156_1, c156_1, A156_2, c156_2, e156, hx156_0, hx156_1, hx156_2, hx156_3, hx156_4, hx156_5, hx156_6, hx156_7, hl156_1, hi156_1, hl156_2, hi156_2⟩ := at_T59 HR0_1.out x11_3 p156 q156
                   cases e156
                   replace hx156_0 := cl HB hx156_0
                   replace hx156_1 := cl HB hx156_1
                   replace hx156_2 := cl HB hx156_2
                   replace hx156_3 := cl HB hx156_3
                   replace hx156_4 := cl HB hx156_4
                   replace hx156_5 := cl HB hx156_5
                   replace hx156_6 := cl HB hx156_6
                   replace hx156_7 := cl HB hx156_7
                   have HR156_1 := Aside0.mk hi156_1
                   have HC156_1 := Aside0.mk hl156_1
                   clear hi156_1 hl156_1
                   have HR156_2 := Aside0.mk hi156_2
                   have HC156_2 := Aside0.mk hl156_2
                   clear hi156_2 hl156_2
                   replace p156 := eq_true p156
                   replace q156 := eq_true q156
                   have p157 : 0 ≤ (x11_3 : Int) := of_decide_eq_true as_
                   have q157 : x11_3 < (l0_1.length : Int) := of_decide_eq_true as_
                   obtain ⟨ad157, A157_1, c157_1, A157_2, c157_2, e157, hx157_0, hx157_1, hx157_2, hx157_3, hx157_4, hx157_5, hx157_6, hx157_7, hl157_1, hi157_1, hl157_2, hi157_2⟩ := at_T59 HR0_1.out x11_3 p157 q157
                   obtain rfl : ad156 = ad157 := (by injection e157)
                   replace hx157_0 := cl HB hx157_0
                   replace hx157_1 := cl HB hx157_1
                   replace hx157_2 := cl HB hx157_2
                   replace hx157_3 := cl HB hx157_3
                   replace hx157_4 := cl HB hx157_4
                   replace hx157_5 := cl HB hx157_5
                   replace hx157_6 := cl HB hx157_6
                   replace hx157_7 := cl HB hx157_7
                   have HR157_1 := Aside0.mk hi157_1
                   have HC157_1 := Aside0.mk hl157_1
                   clear hi157_1 hl157_1
                   have HR157_2 := Aside0.mk hi157_2
                   have HC157_2 := Aside0.mk hl157_2
                   clear hi157_2 hl157_2
                   replace p157 := eq_true p157
                   replace q157 := eq_true q157
                   have ea_ := Option.some.inj (hx156_1.symm.trans hx157_1)
                   injection ea_ with ea_ en_ ec_
                   subst ea_
                   subst ec_
                   clear en_
                   have ea_ := Option.some.inj (hx156_2.symm.trans hx157_2)
                   injection ea_ with ea_ en_ ec_
                   subst ea_
                   subst ec_
                   clear en_
                   obtain ⟨Ao54, co54, eo54⟩ := Kd.R_slice HO_5.out
                   subst eo54
                   have p158 : 0 ≤ ((ji44) : Int) := of_decide_eq_true as_
                   have q158 : (ji44) < (x5_4.length : Int) := of_decide_eq_true as_
                   obtain ⟨ad158, e158, hx158_0⟩ := Kd.at_int (Kd.R_reads' HO_5.out).2.2 (ji44) p158 q158
                   cases e158
                   replace p158 := eq_true p158
                   replace q158 := eq_true q158
                   go_wp2
                   go_ret2
                   exact ⟨_, by first | exact rt1 | (simp only [← hji44]; exact rt1) | exact rt, by first | exact Kd.R_nil _ _ _ _ _ | exact Kd.N_nil _ _ _ _ _ | exact Kd.V_nil _ _ _ _ _ | exact Kd.Q_nil _ _ _ _ _ | exact Kd.S_nil _ _ _ _ _, bw⟩
                 ·rw [if_neg c46] at H
                  exact absurd H (by simp)
                ·rw [if_neg c45] at H
                 exact absurd H (by simp)
              ·have H' := Aside0.mk H
               clear H
               obtain ⟨z55_0, z55_1⟩ := ca2 BK140
               obtain ⟨f55_0, f55_1⟩ := fa2 BK140
               have p156 : 0 ≤ (x11_3 : Int) := of_decide_eq_true as_
               have q156 : x11_3 < (l0_1.length : Int) := of_decide_eq_true as_
               obtain ⟨ad156, A156_1, c156_1, A156_2, c156_2, e156, hx156_0, hx156_1, hx156_2, hx156_3, hx156_4, hx156_5, hx156_6, hx156_7, hl156_1, hi156_1, hl156_2, hi156_2⟩ := at_T59 HR0_1.out x11_3 p156 q156
               cases e156
               replace hx156_0 := cl HB hx156_0
               replace hx156_1 := cl HB hx156_1
               replace hx156_2 := cl HB hx156_2
               replace hx156_3 := cl HB hx156_3
               replace hx156_4 := cl HB hx156_4
               replace hx156_5 := cl HB hx156_5
               replace hx156_6 := cl HB hx156_6
               replace hx156_7 := cl HB hx156_7
               have HR156_1 := Aside0.mk hi156_1
               have HC156_1 := Aside0.mk hl156_1
               clear hi156_1 hl156_1
               have HR156_2 := Aside0.mk hi156_2
               have HC156_2 := Aside0.mk hl156_2
               clear hi156_2 hl156_2
               replace p156 := eq_true p156
               replace q156 := eq_true q156
               go_wp2
               go_roundg k4
               case measure => have := HK1.out; have := HK2.out; have := HK3.out; have := HK4.out; omega
               case rel => exact ⟨(x5_4), (wrap64 (x11_3 + 1)), ev, H', ⟨by have := HK1.out; have := HK2.out; have := HK3.out; have := HK4.out; omega⟩, ⟨ro HO_5⟩, ⟨bk BK140⟩, ⟨bw⟩⟩
             ·rw [if_neg c40] at H
              exact absurd H (by simp)
            ·rw [if_neg c39] at H
             exact absurd H (by simp)
         ·have H' := Aside0.mk H
          clear H
          obtain ⟨z56_0, z56_1⟩ := ca2 BK140
          obtain ⟨f56_0, f56_1⟩ := fa2 BK140
          go_wp2
          go_loopg [14] k3 (fun kq v14 w' => ∃ (x14_4 : Int), v14 = .int .i64 x14_4 ∧ Aside0 (spec_l08Owners.l5 kq (l0_0.length : Int) x5_3 x14_4 l0_0 l0_1 = some (r1, r2)) ∧ Aside0 (kq ≤ k3) ∧ Aside0 (Kd.R (Kd.int .i64) 3 w' w.heap.size (fun _ => True) u5 x5_3) ∧ Aside0 (w'.heap[gb140]? = some (.cells #[(.slice A0_0 l0_0.length c0_0), (.slice A0_1 l0_1.length c0_1)] 34 (0, 0))) ∧ Aside0 (Below w.heap.size w w'))
          case atStart => exact ⟨(0), ev, H', ⟨Nat.le_refl _⟩, ⟨ro HO_5⟩, ⟨bk BK140⟩, ⟨bw⟩⟩
          case round =>
           clear H'
           try clear c6
           try clear c6b0
           try clear c9
           try clear c9b0
           try clear c37
           try clear c37b0
           (try clear z3_0 z3_1)
           (try clear z56_0 z56_1)
           (try clear f3_0 f3_1)
           (try clear f56_0 f56_1)
           obtain ⟨x14_4, rfl, HA, HK4, HO_5, BK140, HB⟩ := hrel
           cases gk with
           | zero => exact absurd HA.out (by simp [spec_l08Owners.l5])
           | succ k4 =>
            have H := HA.out
            clear HA
            simp only [spec_l08Owners.l5] at H
            replace H := ilt H
            rcases H with ⟨c57b0, H⟩ | ⟨c57b0, H⟩
            ·by_cases c58 : 0 ≤ x14_4
             ·rw [if_pos c58] at H
              have c58b0 : decide (0 ≤ x14_4) = true := decide_eq_true c58
              clear c58
              by_cases c59 : x14_4 < (l0_0.length : Int)
              ·rw [if_pos c59] at H
               have c59b0 : decide (x14_4 < (l0_0.length : Int)) = true := decide_eq_true c59
               clear c59
               replace H := bn H
               obtain ⟨⟨t161, t162, t163, t164, t165⟩, A60, H⟩ := H
               try dsimp only at H
               by_cases c61 : x14_4 < (x5_3.length : Int)
               ·rw [if_pos c61] at H
                have c61b0 : decide (x14_4 < (x5_3.length : Int)) = true := decide_eq_true c61
                clear c61
                replace H := ieq H
                rcases H with ⟨c62b0, c62b1, H⟩ | ⟨c62, c62b0, c62b1, H⟩
                ·replace H := ieq H
                 rcases H with ⟨c63b0, c63b1, H⟩ | ⟨c63, c63b0, c63b1, H⟩
                 ·simp only [Option.some.injEq, Prod.mk.injEq] at H
                  obtain ⟨rfl, rfl⟩ := H
                  obtain ⟨z64_0, z64_1⟩ := ca2 BK140
                  obtain ⟨f64_0, f64_1⟩ := fa2 BK140
                  have p160 : 0 ≤ (x14_4 : Int) := of_decide_eq_true as_
                  have q160 : x14_4 < (l0_0.length : Int) := of_decide_eq_true as_
                  obtain ⟨ad160, e160, hx160_0⟩ := Kd.at_int HR0_0.out x14_4 p160 q160
                  cases e160
                  replace hx160_0 := cl HB hx160_0
                  replace p160 := eq_true p160
                  replace q160 := eq_true q160
                  go_wp2_with (first | ((with_reducible refine gf 28 ?_); refine gc Tryz.func28 (some 123) (spec_CtlRead.calls _ _ _ _ _ _ _ _ A60.out) ?_; rintro e w65 ⟨rfl, hb⟩; refine ⟨_, rfl, ?_⟩; replace HO_5 := Aside0.mk (Kd.R_below (ro HO_5) hb); replace BK140 := b_ BK140 hb; replace HB := hs hb; try clear hb) | ((with_reducible refine gd 15 ?_); refine bx 15 61 #[.int .i64 0, .int .i64 0, .int .u32 0, .int .i64 0] ?_; clear HB; intro gb166 w66 hg BK166 hb GE166 HB; replace HO_5 := Aside0.mk (Kd.R_below (ro HO_5) hb); have NB140_166 := nl BK140 hg; have NB166_140 := ng BK140 hg; replace BK140 := b_ BK140 hb; clear hb hg; have hnb67 := NB166_140.out; have hnc67 := NB140_166.out; obtain ⟨z68_0, z68_1, z68_2, z68_3⟩ := ca4 BK166; obtain ⟨f68_0, f68_1, f68_2, f68_3⟩ := fa4 BK166; obtain ⟨Ao69, co69, eo69⟩ := Kd.R_slice HO_5.out; subst eo69; have p167 : 0 ≤ (x14_4 : Int) := of_decide_eq_true as_; have q167 : x14_4 < (x5_3.length : Int) := of_decide_eq_true as_; obtain ⟨ad167, e167, hx167_0⟩ := Kd.at_int (Kd.R_reads' HO_5.out).2.2 x14_4 p167 q167; cases e167; have hn167_0 : ad167.block ≠ gb166 := Kd.own_blk (Kd.R_ne HO_5.out BK166.out (by decide)); have hn167_1 : ad167.block ≠ gb166 := Kd.own_blk (Kd.R_ne HO_5.out BK166.out (by decide)); have hn167_2 : ad167.block ≠ gb166 := Kd.own_blk (Kd.R_ne HO_5.out BK166.out (by decide)); have hn167_3 : ad167.block ≠ gb166 := Kd.own_blk (Kd.R_ne HO_5.out BK166.out (by decide)); replace hx167_0 := (cell_far (p := ⟨gb166, 0, none⟩) (ab hn167_0) (.int .i64 t161)).trans hx167_0; replace hx167_0 := (cell_far (p := ⟨gb166, 1, none⟩) (ab hn167_1) (.int .i64 t162)).trans hx167_0; replace hx167_0 := (cell_far (p := ⟨gb166, 2, none⟩) (ab hn167_2) (.int .u32 t163)).trans hx167_0; replace hx167_0 := (cell_far (p := ⟨gb166, 3, none⟩) (ab hn167_3) (.int .i64 t164)).trans hx167_0; clear hn167_0; clear hn167_1; clear hn167_2; clear hn167_3; replace p167 := eq_true p167; replace q167 := eq_true q167))
                  go_ret2
                  exact ⟨_, rt, by first | exact Kd.R_nil _ _ _ _ _ | exact Kd.N_nil _ _ _ _ _ | exact Kd.V_nil _ _ _ _ _ | exact Kd.Q_nil _ _ _ _ _ | exact Kd.S_nil _ _ _ _ _, bw⟩
                 ·replace H := ieq H
                  rcases H with ⟨c70b0, c70b1, H⟩ | ⟨c70, c70b0, c70b1, H⟩
                  ·simp only [Option.some.injEq, Prod.mk.injEq] at H
                   obtain ⟨rfl, rfl⟩ := H
                   obtain ⟨z71_0, z71_1⟩ := ca2 BK140
                   obtain ⟨f71_0, f71_1⟩ := fa2 BK140
                   have p160 : 0 ≤ (x14_4 : Int) := of_decide_eq_true as_
                   have q160 : x14_4 < (l0_0.length : Int) := of_decide_eq_true as_
                   obtain ⟨ad160, e160, hx160_0⟩ := Kd.at_int HR0_0.out x14_4 p160 q160
                   cases e160
                   replace hx160_0 := cl HB hx160_0
                   replace p160 := eq_true p160
                   replace q160 := eq_true q160
                   go_wp2_with (first | ((with_reducible refine gf 28 ?_); refine gc Tryz.func28 (some 123) (spec_CtlRead.calls _ _ _ _ _ _ _ _ A60.out) ?_; rintro e w72 ⟨rfl, hb⟩; refine ⟨_, rfl, ?_⟩; replace HO_5 := Aside0.mk (Kd.R_below (ro HO_5) hb); replace BK140 := b_ BK140 hb; replace HB := hs hb; try clear hb) | ((with_reducible refine gd 15 ?_); refine bx 15 61 #[.int .i64 0, .int .i64 0, .int .u32 0, .int .i64 0] ?_; clear HB; intro gb166 w73 hg BK166 hb GE166 HB; replace HO_5 := Aside0.mk (Kd.R_below (ro HO_5) hb); have NB140_166 := nl BK140 hg; have NB166_140 := ng BK140 hg; replace BK140 := b_ BK140 hb; clear hb hg; have hnb74 := NB166_140.out; have hnc74 := NB140_166.out; obtain ⟨z75_0, z75_1, z75_2, z75_3⟩ := ca4 BK166; obtain ⟨f75_0, f75_1, f75_2, f75_3⟩ := fa4 BK166; obtain ⟨Ao76, co76, eo76⟩ := Kd.R_slice HO_5.out; subst eo76; have p167 : 0 ≤ (x14_4 : Int) := of_decide_eq_true as_; have q167 : x14_4 < (x5_3.length : Int) := of_decide_eq_true as_; obtain ⟨ad167, e167, hx167_0⟩ := Kd.at_int (Kd.R_reads' HO_5.out).2.2 x14_4 p167 q167; cases e167; have hn167_0 : ad167.block ≠ gb166 := Kd.own_blk (Kd.R_ne HO_5.out BK166.out (by decide)); have hn167_1 : ad167.block ≠ gb166 := Kd.own_blk (Kd.R_ne HO_5.out BK166.out (by decide)); have hn167_2 : ad167.block ≠ gb166 := Kd.own_blk (Kd.R_ne HO_5.out BK166.out (by decide)); have hn167_3 : ad167.block ≠ gb166 := Kd.own_blk (Kd.R_ne HO_5.out BK166.out (by decide)); replace hx167_0 := (cell_far (p := ⟨gb166, 0, none⟩) (ab hn167_0) (.int .i64 t161)).trans hx167_0; replace hx167_0 := (cell_far (p := ⟨gb166, 1, none⟩) (ab hn167_1) (.int .i64 t162)).trans hx167_0; replace hx167_0 := (cell_far (p := ⟨gb166, 2, none⟩) (ab hn167_2) (.int .u32 t163)).trans hx167_0; replace hx167_0 := (cell_far (p := ⟨gb166, 3, none⟩) (ab hn167_3) (.int .i64 t164)).trans hx167_0; clear hn167_0; clear hn167_1; clear hn167_2; clear hn167_3; replace p167 := eq_true p167; replace q167 := eq_true q167))
                   go_ret2
                   exact ⟨_, rt, by first | exact Kd.R_nil _ _ _ _ _ | exact Kd.N_nil _ _ _ _ _ | exact Kd.V_nil _ _ _ _ _ | exact Kd.Q_nil _ _ _ _ _ | exact Kd.S_nil _ _ _ _ _, bw⟩
                  ·replace H := ige H
                   rcases H with ⟨c77b0, H⟩ | ⟨c77b0, H⟩
                   ·simp only [Option.some.injEq, Prod.mk.injEq] at H
                    obtain ⟨rfl, rfl⟩ := H
                    obtain ⟨z78_0, z78_1⟩ := ca2 BK140
                    obtain ⟨f78_0, f78_1⟩ := fa2 BK140
                    have p160 : 0 ≤ (x14_4 : Int) := of_decide_eq_true as_
                    have q160 : x14_4 < (l0_0.length : Int) := of_decide_eq_true as_
                    obtain ⟨ad160, e160, hx160_0⟩ := Kd.at_int HR0_0.out x14_4 p160 q160
                    cases e160
                    replace hx160_0 := cl HB hx160_0
                    replace p160 := eq_true p160
                    replace q160 := eq_true q160
                    go_wp2_with (first | ((with_reducible refine gf 28 ?_); refine gc Tryz.func28 (some 123) (spec_CtlRead.calls _ _ _ _ _ _ _ _ A60.out) ?_; rintro e w79 ⟨rfl, hb⟩; refine ⟨_, rfl, ?_⟩; replace HO_5 := Aside0.mk (Kd.R_below (ro HO_5) hb); replace BK140 := b_ BK140 hb; replace HB := hs hb; try clear hb) | ((with_reducible refine gd 15 ?_); refine bx 15 61 #[.int .i64 0, .int .i64 0, .int .u32 0, .int .i64 0] ?_; clear HB; intro gb166 w80 hg BK166 hb GE166 HB; replace HO_5 := Aside0.mk (Kd.R_below (ro HO_5) hb); have NB140_166 := nl BK140 hg; have NB166_140 := ng BK140 hg; replace BK140 := b_ BK140 hb; clear hb hg; have hnb81 := NB166_140.out; have hnc81 := NB140_166.out; obtain ⟨z82_0, z82_1, z82_2, z82_3⟩ := ca4 BK166; obtain ⟨f82_0, f82_1, f82_2, f82_3⟩ := fa4 BK166; obtain ⟨Ao83, co83, eo83⟩ := Kd.R_slice HO_5.out; subst eo83; have p167 : 0 ≤ (x14_4 : Int) := of_decide_eq_true as_; have q167 : x14_4 < (x5_3.length : Int) := of_decide_eq_true as_; obtain ⟨ad167, e167, hx167_0⟩ := Kd.at_int (Kd.R_reads' HO_5.out).2.2 x14_4 p167 q167; cases e167; have hn167_0 : ad167.block ≠ gb166 := Kd.own_blk (Kd.R_ne HO_5.out BK166.out (by decide)); have hn167_1 : ad167.block ≠ gb166 := Kd.own_blk (Kd.R_ne HO_5.out BK166.out (by decide)); have hn167_2 : ad167.block ≠ gb166 := Kd.own_blk (Kd.R_ne HO_5.out BK166.out (by decide)); have hn167_3 : ad167.block ≠ gb166 := Kd.own_blk (Kd.R_ne HO_5.out BK166.out (by decide)); replace hx167_0 := (cell_far (p := ⟨gb166, 0, none⟩) (ab hn167_0) (.int .i64 t161)).trans hx167_0; replace hx167_0 := (cell_far (p := ⟨gb166, 1, none⟩) (ab hn167_1) (.int .i64 t162)).trans hx167_0; replace hx167_0 := (cell_far (p := ⟨gb166, 2, none⟩) (ab hn167_2) (.int .u32 t163)).trans hx167_0; replace hx167_0 := (cell_far (p := ⟨gb166, 3, none⟩) (ab hn167_3) (.int .i64 t164)).trans hx167_0; clear hn167_0; clear hn167_1; clear hn167_2; clear hn167_3; replace p167 := eq_true p167; replace q167 := eq_true q167; have p168 : 0 ≤ (x14_4 : Int) := of_decide_eq_true as_; have q168 : x14_4 < (x5_3.length : Int) := of_decide_eq_true as_; obtain ⟨ad168, e168, hx168_0⟩ := Kd.at_int (Kd.R_reads' HO_5.out).2.2 x14_4 p168 q168; obtain rfl : ad167 = ad168 := (by injection e168); have hn168_0 : ad167.block ≠ gb166 := Kd.own_blk (Kd.R_ne HO_5.out BK166.out (by decide)); have hn168_1 : ad167.block ≠ gb166 := Kd.own_blk (Kd.R_ne HO_5.out BK166.out (by decide)); have hn168_2 : ad167.block ≠ gb166 := Kd.own_blk (Kd.R_ne HO_5.out BK166.out (by decide)); have hn168_3 : ad167.block ≠ gb166 := Kd.own_blk (Kd.R_ne HO_5.out BK166.out (by decide)); replace hx168_0 := (cell_far (p := ⟨gb166, 0, none⟩) (ab hn168_0) (.int .i64 t161)).trans hx168_0; replace hx168_0 := (cell_far (p := ⟨gb166, 1, none⟩) (ab hn168_1) (.int .i64 t162)).trans hx168_0; replace hx168_0 := (cell_far (p := ⟨gb166, 2, none⟩) (ab hn168_2) (.int .u32 t163)).trans hx168_0; replace hx168_0 := (cell_far (p := ⟨gb166, 3, none⟩) (ab hn168_3) (.int .i64 t164)).trans hx168_0; clear hn168_0; clear hn168_1; clear hn168_2; clear hn168_3; replace p168 := eq_true p168; replace q168 := eq_true q168))
                    go_ret2
                    exact ⟨_, rt, by first | exact Kd.R_nil _ _ _ _ _ | exact Kd.N_nil _ _ _ _ _ | exact Kd.V_nil _ _ _ _ _ | exact Kd.Q_nil _ _ _ _ _ | exact Kd.S_nil _ _ _ _ _, bw⟩
                   ·replace H := ieq H
                    rcases H with ⟨c84b0, c84b1, H⟩ | ⟨c84, c84b0, c84b1, H⟩
                    ·simp only [Option.some.injEq, Prod.mk.injEq] at H
                     obtain ⟨rfl, rfl⟩ := H
                     obtain ⟨z85_0, z85_1⟩ := ca2 BK140
                     obtain ⟨f85_0, f85_1⟩ := fa2 BK140
                     have p160 : 0 ≤ (x14_4 : Int) := of_decide_eq_true as_
                     have q160 : x14_4 < (l0_0.length : Int) := of_decide_eq_true as_
                     obtain ⟨ad160, e160, hx160_0⟩ := Kd.at_int HR0_0.out x14_4 p160 q160
                     cases e160
                     replace hx160_0 := cl HB hx160_0
                     replace p160 := eq_true p160
                     replace q160 := eq_true q160
                     go_wp2_with (first | ((with_reducible refine gf 28 ?_); refine gc Tryz.func28 (some 123) (spec_CtlRead.calls _ _ _ _ _ _ _ _ A60.out) ?_; rintro e w86 ⟨rfl, hb⟩; refine ⟨_, rfl, ?_⟩; replace HO_5 := Aside0.mk (Kd.R_below (ro HO_5) hb); replace BK140 := b_ BK140 hb; replace HB := hs hb; try clear hb) | ((with_reducible refine gd 15 ?_); refine bx 15 61 #[.int .i64 0, .int .i64 0, .int .u32 0, .int .i64 0] ?_; clear HB; intro gb166 w87 hg BK166 hb GE166 HB; replace HO_5 := Aside0.mk (Kd.R_below (ro HO_5) hb); have NB140_166 := nl BK140 hg; have NB166_140 := ng BK140 hg; replace BK140 := b_ BK140 hb; clear hb hg; have hnb88 := NB166_140.out; have hnc88 := NB140_166.out; obtain ⟨z89_0, z89_1, z89_2, z89_3⟩ := ca4 BK166; obtain ⟨f89_0, f89_1, f89_2, f89_3⟩ := fa4 BK166; obtain ⟨Ao90, co90, eo90⟩ := Kd.R_slice HO_5.out; subst eo90; have p167 : 0 ≤ (x14_4 : Int) := of_decide_eq_true as_; have q167 : x14_4 < (x5_3.length : Int) := of_decide_eq_true as_; obtain ⟨ad167, e167, hx167_0⟩ := Kd.at_int (Kd.R_reads' HO_5.out).2.2 x14_4 p167 q167; cases e167; have hn167_0 : ad167.block ≠ gb166 := Kd.own_blk (Kd.R_ne HO_5.out BK166.out (by decide)); have hn167_1 : ad167.block ≠ gb166 := Kd.own_blk (Kd.R_ne HO_5.out BK166.out (by decide)); have hn167_2 : ad167.block ≠ gb166 := Kd.own_blk (Kd.R_ne HO_5.out BK166.out (by decide)); have hn167_3 : ad167.block ≠ gb166 := Kd.own_blk (Kd.R_ne HO_5.out BK166.out (by decide)); replace hx167_0 := (cell_far (p := ⟨gb166, 0, none⟩) (ab hn167_0) (.int .i64 t161)).trans hx167_0; replace hx167_0 := (cell_far (p := ⟨gb166, 1, none⟩) (ab hn167_1) (.int .i64 t162)).trans hx167_0; replace hx167_0 := (cell_far (p := ⟨gb166, 2, none⟩) (ab hn167_2) (.int .u32 t163)).trans hx167_0; replace hx167_0 := (cell_far (p := ⟨gb166, 3, none⟩) (ab hn167_3) (.int .i64 t164)).trans hx167_0; clear hn167_0; clear hn167_1; clear hn167_2; clear hn167_3; replace p167 := eq_true p167; replace q167 := eq_true q167; have p168 : 0 ≤ (x14_4 : Int) := of_decide_eq_true as_; have q168 : x14_4 < (x5_3.length : Int) := of_decide_eq_true as_; obtain ⟨ad168, e168, hx168_0⟩ := Kd.at_int (Kd.R_reads' HO_5.out).2.2 x14_4 p168 q168; obtain rfl : ad167 = ad168 := (by injection e168); have hn168_0 : ad167.block ≠ gb166 := Kd.own_blk (Kd.R_ne HO_5.out BK166.out (by decide)); have hn168_1 : ad167.block ≠ gb166 := Kd.own_blk (Kd.R_ne HO_5.out BK166.out (by decide)); have hn168_2 : ad167.block ≠ gb166 := Kd.own_blk (Kd.R_ne HO_5.out BK166.out (by decide)); have hn168_3 : ad167.block ≠ gb166 := Kd.own_blk (Kd.R_ne HO_5.out BK166.out (by decide)); replace hx168_0 := (cell_far (p := ⟨gb166, 0, none⟩) (ab hn168_0) (.int .i64 t161)).trans hx168_0; replace hx168_0 := (cell_far (p := ⟨gb166, 1, none⟩) (ab hn168_1) (.int .i64 t162)).trans hx168_0; replace hx168_0 := (cell_far (p := ⟨gb166, 2, none⟩) (ab hn168_2) (.int .u32 t163)).trans hx168_0; replace hx168_0 := (cell_far (p := ⟨gb166, 3, none⟩) (ab hn168_3) (.int .i64 t164)).trans hx168_0; clear hn168_0; clear hn168_1; clear hn168_2; clear hn168_3; replace p168 := eq_true p168; replace q168 := eq_true q168; have p169 : 0 ≤ (x14_4 : Int) := of_decide_eq_true as_; have q169 : x14_4 < (x5_3.length : Int) := of_decide_eq_true as_; obtain ⟨ad169, e169, hx169_0⟩ := Kd.at_int (Kd.R_reads' HO_5.out).2.2 x14_4 p169 q169; obtain rfl : ad167 = ad169 := (by injection e169); have hn169_0 : ad167.block ≠ gb166 := Kd.own_blk (Kd.R_ne HO_5.out BK166.out (by decide)); have hn169_1 : ad167.block ≠ gb166 := Kd.own_blk (Kd.R_ne HO_5.out BK166.out (by decide)); have hn169_2 : ad167.block ≠ gb166 := Kd.own_blk (Kd.R_ne HO_5.out BK166.out (by decide)); have hn169_3 : ad167.block ≠ gb166 := Kd.own_blk (Kd.R_ne HO_5.out BK166.out (by decide)); replace hx169_0 := (cell_far (p := ⟨gb166, 0, none⟩) (ab hn169_0) (.int .i64 t161)).trans hx169_0; replace hx169_0 := (cell_far (p := ⟨gb166, 1, none⟩) (ab hn169_1) (.int .i64 t162)).trans hx169_0; replace hx169_0 := (cell_far (p := ⟨gb166, 2, none⟩) (ab hn169_2) (.int .u32 t163)).trans hx169_0; replace hx169_0 := (cell_far (p := ⟨gb166, 3, none⟩) (ab hn169_3) (.int .i64 t164)).trans hx169_0; clear hn169_0; clear hn169_1; clear hn169_2; clear hn169_3; replace p169 := eq_true p169; replace q169 := eq_true q169))
                     go_ret2
                     exact ⟨_, rt, by first | exact Kd.R_nil _ _ _ _ _ | exact Kd.N_nil _ _ _ _ _ | exact Kd.V_nil _ _ _ _ _ | exact Kd.Q_nil _ _ _ _ _ | exact Kd.S_nil _ _ _ _ _, bw⟩
                    ·have H' := Aside0.mk H
                     clear H
                     obtain ⟨z91_0, z91_1⟩ := ca2 BK140
                     obtain ⟨f91_0, f91_1⟩ := fa2 BK140
                     have p160 : 0 ≤ (x14_4 : Int) := of_decide_eq_true as_
                     have q160 : x14_4 < (l0_0.length : Int) := of_decide_eq_true as_
                     obtain ⟨ad160, e160, hx160_0⟩ := Kd.at_int HR0_0.out x14_4 p160 q160
                     cases e160
                     replace hx160_0 := cl HB hx160_0
                     replace p160 := eq_true p160
                     replace q160 := eq_true q160
                     go_wp2_with (first | ((with_reducible refine gf 28 ?_); refine gc Tryz.func28 (some 123) (spec_CtlRead.calls _ _ _ _ _ _ _ _ A60.out) ?_; rintro e w92 ⟨rfl, hb⟩; refine ⟨_, rfl, ?_⟩; replace HO_5 := Aside0.mk (Kd.R_below (ro HO_5) hb); replace BK140 := b_ BK140 hb; replace HB := hs hb; try clear hb) | ((with_reducible refine gd 15 ?_); refine bx 15 61 #[.int .i64 0, .int .i64 0, .int .u32 0, .int .i64 0] ?_; clear HB; intro gb166 w93 hg BK166 hb GE166 HB; replace HO_5 := Aside0.mk (Kd.R_below (ro HO_5) hb); have NB140_166 := nl BK140 hg; have NB166_140 := ng BK140 hg; replace BK140 := b_ BK140 hb; clear hb hg; have hnb94 := NB166_140.out; have hnc94 := NB140_166.out; obtain ⟨z95_0, z95_1, z95_2, z95_3⟩ := ca4 BK166; obtain ⟨f95_0, f95_1, f95_2, f95_3⟩ := fa4 BK166; obtain ⟨Ao96, co96, eo96⟩ := Kd.R_slice HO_5.out; subst eo96; have p167 : 0 ≤ (x14_4 : Int) := of_decide_eq_true as_; have q167 : x14_4 < (x5_3.length : Int) := of_decide_eq_true as_; obtain ⟨ad167, e167, hx167_0⟩ := Kd.at_int (Kd.R_reads' HO_5.out).2.2 x14_4 p167 q167; cases e167; have hn167_0 : ad167.block ≠ gb166 := Kd.own_blk (Kd.R_ne HO_5.out BK166.out (by decide)); have hn167_1 : ad167.block ≠ gb166 := Kd.own_blk (Kd.R_ne HO_5.out BK166.out (by decide)); have hn167_2 : ad167.block ≠ gb166 := Kd.own_blk (Kd.R_ne HO_5.out BK166.out (by decide)); have hn167_3 : ad167.block ≠ gb166 := Kd.own_blk (Kd.R_ne HO_5.out BK166.out (by decide)); replace hx167_0 := (cell_far (p := ⟨gb166, 0, none⟩) (ab hn167_0) (.int .i64 t161)).trans hx167_0; replace hx167_0 := (cell_far (p := ⟨gb166, 1, none⟩) (ab hn167_1) (.int .i64 t162)).trans hx167_0; replace hx167_0 := (cell_far (p := ⟨gb166, 2, none⟩) (ab hn167_2) (.int .u32 t163)).trans hx167_0; replace hx167_0 := (cell_far (p := ⟨gb166, 3, none⟩) (ab hn167_3) (.int .i64 t164)).trans hx167_0; clear hn167_0; clear hn167_1; clear hn167_2; clear hn167_3; replace p167 := eq_true p167; replace q167 := eq_true q167; have p168 : 0 ≤ (x14_4 : Int) := of_decide_eq_true as_; have q168 : x14_4 < (x5_3.length : Int) := of_decide_eq_true as_; obtain ⟨ad168, e168, hx168_0⟩ := Kd.at_int (Kd.R_reads' HO_5.out).2.2 x14_4 p168 q168; obtain rfl : ad167 = ad168 := (by injection e168); have hn168_0 : ad167.block ≠ gb166 := Kd.own_blk (Kd.R_ne HO_5.out BK166.out (by decide)); have hn168_1 : ad167.block ≠ gb166 := Kd.own_blk (Kd.R_ne HO_5.out BK166.out (by decide)); have hn168_2 : ad167.block ≠ gb166 := Kd.own_blk (Kd.R_ne HO_5.out BK166.out (by decide)); have hn168_3 : ad167.block ≠ gb166 := Kd.own_blk (Kd.R_ne HO_5.out BK166.out (by decide)); replace hx168_0 := (cell_far (p := ⟨gb166, 0, none⟩) (ab hn168_0) (.int .i64 t161)).trans hx168_0; replace hx168_0 := (cell_far (p := ⟨gb166, 1, none⟩) (ab hn168_1) (.int .i64 t162)).trans hx168_0; replace hx168_0 := (cell_far (p := ⟨gb166, 2, none⟩) (ab hn168_2) (.int .u32 t163)).trans hx168_0; replace hx168_0 := (cell_far (p := ⟨gb166, 3, none⟩) (ab hn168_3) (.int .i64 t164)).trans hx168_0; clear hn168_0; clear hn168_1; clear hn168_2; clear hn168_3; replace p168 := eq_true p168; replace q168 := eq_true q168; have p169 : 0 ≤ (x14_4 : Int) := of_decide_eq_true as_; have q169 : x14_4 < (x5_3.length : Int) := of_decide_eq_true as_; obtain ⟨ad169, e169, hx169_0⟩ := Kd.at_int (Kd.R_reads' HO_5.out).2.2 x14_4 p169 q169; obtain rfl : ad167 = ad169 := (by injection e169); have hn169_0 : ad167.block ≠ gb166 := Kd.own_blk (Kd.R_ne HO_5.out BK166.out (by decide)); have hn169_1 : ad167.block ≠ gb166 := Kd.own_blk (Kd.R_ne HO_5.out BK166.out (by decide)); have hn169_2 : ad167.block ≠ gb166 := Kd.own_blk (Kd.R_ne HO_5.out BK166.out (by decide)); have hn169_3 : ad167.block ≠ gb166 := Kd.own_blk (Kd.R_ne HO_5.out BK166.out (by decide)); replace hx169_0 := (cell_far (p := ⟨gb166, 0, none⟩) (ab hn169_0) (.int .i64 t161)).trans hx169_0; replace hx169_0 := (cell_far (p := ⟨gb166, 1, none⟩) (ab hn169_1) (.int .i64 t162)).trans hx169_0; replace hx169_0 := (cell_far (p := ⟨gb166, 2, none⟩) (ab hn169_2) (.int .u32 t163)).trans hx169_0; replace hx169_0 := (cell_far (p := ⟨gb166, 3, none⟩) (ab hn169_3) (.int .i64 t164)).trans hx169_0; clear hn169_0; clear hn169_1; clear hn169_2; clear hn169_3; replace p169 := eq_true p169; replace q169 := eq_true q169))
                     go_roundg k4
                     case measure => have := HK1.out; have := HK2.out; have := HK3.out; have := HK4.out; omega
                     case rel => exact ⟨(wrap64 (x14_4 + 1)), ev, H', ⟨by have := HK1.out; have := HK2.out; have := HK3.out; have := HK4.out; omega⟩, ⟨by (with_reducible repeat (first | apply Kd.R_alloc | apply Kd.R_drewN | apply Kd.R_drew)); exact Kd.R_mono (Kd.R_far (p := ⟨gb166, 3, none⟩) (Kd.R_far (p := ⟨gb166, 2, none⟩) (Kd.R_far (p := ⟨gb166, 1, none⟩) (Kd.R_far (p := ⟨gb166, 0, none⟩) (Kd.R_types HO_5.out BK166.out (by decide)) (fun _ hk => hk.2) (.int .i64 t161)) (fun _ hk => hk.2) (.int .i64 t162)) (fun _ hk => hk.2) (.int .u32 t163)) (fun _ hk => hk.2) (.int .i64 t164)) (fun _ hk => trivial)⟩, ⟨bk BK140⟩, ⟨bw⟩⟩
                ·replace H := ige H
                 rcases H with ⟨c97b0, H⟩ | ⟨c97b0, H⟩
                 ·replace H := ieq H
                  rcases H with ⟨c98b0, c98b1, H⟩ | ⟨c98, c98b0, c98b1, H⟩
                  ·replace H := ieq H
                   rcases H with ⟨c99b0, c99b1, H⟩ | ⟨c99, c99b0, c99b1, H⟩
                   ·have H' := Aside0.mk H
                    clear H
                    obtain ⟨z100_0, z100_1⟩ := ca2 BK140
                    obtain ⟨f100_0, f100_1⟩ := fa2 BK140
                    have p160 : 0 ≤ (x14_4 : Int) := of_decide_eq_true as_
                    have q160 : x14_4 < (l0_0.length : Int) := of_decide_eq_true as_
                    obtain ⟨ad160, e160, hx160_0⟩ := Kd.at_int HR0_0.out x14_4 p160 q160
                    cases e160
                    replace hx160_0 := cl HB hx160_0
                    replace p160 := eq_true p160
                    replace q160 := eq_true q160
                    go_wp2_with (first | ((with_reducible refine gf 28 ?_); refine gc Tryz.func28 (some 123) (spec_CtlRead.calls _ _ _ _ _ _ _ _ A60.out) ?_; rintro e w101 ⟨rfl, hb⟩; refine ⟨_, rfl, ?_⟩; replace HO_5 := Aside0.mk (Kd.R_below (ro HO_5) hb); replace BK140 := b_ BK140 hb; replace HB := hs hb; try clear hb) | ((with_reducible refine gd 15 ?_); refine bx 15 61 #[.int .i64 0, .int .i64 0, .int .u32 0, .int .i64 0] ?_; clear HB; intro gb166 w102 hg BK166 hb GE166 HB; replace HO_5 := Aside0.mk (Kd.R_below (ro HO_5) hb); have NB140_166 := nl BK140 hg; have NB166_140 := ng BK140 hg; replace BK140 := b_ BK140 hb; clear hb hg; have hnb103 := NB166_140.out; have hnc103 := NB140_166.out; obtain ⟨z104_0, z104_1, z104_2, z104_3⟩ := ca4 BK166; obtain ⟨f104_0, f104_1, f104_2, f104_3⟩ := fa4 BK166; obtain ⟨Ao105, co105, eo105⟩ := Kd.R_slice HO_5.out; subst eo105; have p167 : 0 ≤ (x14_4 : Int) := of_decide_eq_true as_; have q167 : x14_4 < (x5_3.length : Int) := of_decide_eq_true as_; obtain ⟨ad167, e167, hx167_0⟩ := Kd.at_int (Kd.R_reads' HO_5.out).2.2 x14_4 p167 q167; cases e167; have hn167_0 : ad167.block ≠ gb166 := Kd.own_blk (Kd.R_ne HO_5.out BK166.out (by decide)); have hn167_1 : ad167.block ≠ gb166 := Kd.own_blk (Kd.R_ne HO_5.out BK166.out (by decide)); have hn167_2 : ad167.block ≠ gb166 := Kd.own_blk (Kd.R_ne HO_5.out BK166.out (by decide)); have hn167_3 : ad167.block ≠ gb166 := Kd.own_blk (Kd.R_ne HO_5.out BK166.out (by decide)); replace hx167_0 := (cell_far (p := ⟨gb166, 0, none⟩) (ab hn167_0) (.int .i64 t161)).trans hx167_0; replace hx167_0 := (cell_far (p := ⟨gb166, 1, none⟩) (ab hn167_1) (.int .i64 t162)).trans hx167_0; replace hx167_0 := (cell_far (p := ⟨gb166, 2, none⟩) (ab hn167_2) (.int .u32 t163)).trans hx167_0; replace hx167_0 := (cell_far (p := ⟨gb166, 3, none⟩) (ab hn167_3) (.int .i64 t164)).trans hx167_0; clear hn167_0; clear hn167_1; clear hn167_2; clear hn167_3; replace p167 := eq_true p167; replace q167 := eq_true q167; have p170 : 0 ≤ (x14_4 : Int) := of_decide_eq_true as_; have q170 : x14_4 < (x5_3.length : Int) := of_decide_eq_true as_; obtain ⟨ad170, e170, hx170_0⟩ := Kd.at_int (Kd.R_reads' HO_5.out).2.2 x14_4 p170 q170; obtain rfl : ad167 = ad170 := (by injection e170); have hn170_0 : ad167.block ≠ gb166 := Kd.own_blk (Kd.R_ne HO_5.out BK166.out (by decide)); have hn170_1 : ad167.block ≠ gb166 := Kd.own_blk (Kd.R_ne HO_5.out BK166.out (by decide)); have hn170_2 : ad167.block ≠ gb166 := Kd.own_blk (Kd.R_ne HO_5.out BK166.out (by decide)); have hn170_3 : ad167.block ≠ gb166 := Kd.own_blk (Kd.R_ne HO_5.out BK166.out (by decide)); replace hx170_0 := (cell_far (p := ⟨gb166, 0, none⟩) (ab hn170_0) (.int .i64 t161)).trans hx170_0; replace hx170_0 := (cell_far (p := ⟨gb166, 1, none⟩) (ab hn170_1) (.int .i64 t162)).trans hx170_0; replace hx170_0 := (cell_far (p := ⟨gb166, 2, none⟩) (ab hn170_2) (.int .u32 t163)).trans hx170_0; replace hx170_0 := (cell_far (p := ⟨gb166, 3, none⟩) (ab hn170_3) (.int .i64 t164)).trans hx170_0; clear hn170_0; clear hn170_1; clear hn170_2; clear hn170_3; replace p170 := eq_true p170; replace q170 := eq_true q170; have p171 : 0 ≤ (x14_4 : Int) := of_decide_eq_true as_; have q171 : x14_4 < (x5_3.length : Int) := of_decide_eq_true as_; obtain ⟨ad171, e171, hx171_0⟩ := Kd.at_int (Kd.R_reads' HO_5.out).2.2 x14_4 p171 q171; obtain rfl : ad167 = ad171 := (by injection e171); have hn171_0 : ad167.block ≠ gb166 := Kd.own_blk (Kd.R_ne HO_5.out BK166.out (by decide)); have hn171_1 : ad167.block ≠ gb166 := Kd.own_blk (Kd.R_ne HO_5.out BK166.out (by decide)); have hn171_2 : ad167.block ≠ gb166 := Kd.own_blk (Kd.R_ne HO_5.out BK166.out (by decide)); have hn171_3 : ad167.block ≠ gb166 := Kd.own_blk (Kd.R_ne HO_5.out BK166.out (by decide)); replace hx171_0 := (cell_far (p := ⟨gb166, 0, none⟩) (ab hn171_0) (.int .i64 t161)).trans hx171_0; replace hx171_0 := (cell_far (p := ⟨gb166, 1, none⟩) (ab hn171_1) (.int .i64 t162)).trans hx171_0; replace hx171_0 := (cell_far (p := ⟨gb166, 2, none⟩) (ab hn171_2) (.int .u32 t163)).trans hx171_0; replace hx171_0 := (cell_far (p := ⟨gb166, 3, none⟩) (ab hn171_3) (.int .i64 t164)).trans hx171_0; clear hn171_0; clear hn171_1; clear hn171_2; clear hn171_3; replace p171 := eq_true p171; replace q171 := eq_true q171))
                    go_roundg k4
                    case measure => have := HK1.out; have := HK2.out; have := HK3.out; have := HK4.out; omega
                    case rel => exact ⟨(wrap64 (x14_4 + 1)), ev, H', ⟨by have := HK1.out; have := HK2.out; have := HK3.out; have := HK4.out; omega⟩, ⟨by (with_reducible repeat (first | apply Kd.R_alloc | apply Kd.R_drewN | apply Kd.R_drew)); exact Kd.R_mono (Kd.R_far (p := ⟨gb166, 3, none⟩) (Kd.R_far (p := ⟨gb166, 2, none⟩) (Kd.R_far (p := ⟨gb166, 1, none⟩) (Kd.R_far (p := ⟨gb166, 0, none⟩) (Kd.R_types HO_5.out BK166.out (by decide)) (fun _ hk => hk.2) (.int .i64 t161)) (fun _ hk => hk.2) (.int .i64 t162)) (fun _ hk => hk.2) (.int .u32 t163)) (fun _ hk => hk.2) (.int .i64 t164)) (fun _ hk => trivial)⟩, ⟨bk BK140⟩, ⟨bw⟩⟩
                   ·have H' := Aside0.mk H
                    clear H
                    obtain ⟨z106_0, z106_1⟩ := ca2 BK140
                    obtain ⟨f106_0, f106_1⟩ := fa2 BK140
                    have p160 : 0 ≤ (x14_4 : Int) := of_decide_eq_true as_
                    have q160 : x14_4 < (l0_0.length : Int) := of_decide_eq_true as_
                    obtain ⟨ad160, e160, hx160_0⟩ := Kd.at_int HR0_0.out x14_4 p160 q160
                    cases e160
                    replace hx160_0 := cl HB hx160_0
                    replace p160 := eq_true p160
                    replace q160 := eq_true q160
                    go_wp2_with (first | ((with_reducible refine gf 28 ?_); refine gc Tryz.func28 (some 123) (spec_CtlRead.calls _ _ _ _ _ _ _ _ A60.out) ?_; rintro e w107 ⟨rfl, hb⟩; refine ⟨_, rfl, ?_⟩; replace HO_5 := Aside0.mk (Kd.R_below (ro HO_5) hb); replace BK140 := b_ BK140 hb; replace HB := hs hb; try clear hb) | ((with_reducible refine gd 15 ?_); refine bx 15 61 #[.int .i64 0, .int .i64 0, .int .u32 0, .int .i64 0] ?_; clear HB; intro gb166 w108 hg BK166 hb GE166 HB; replace HO_5 := Aside0.mk (Kd.R_below (ro HO_5) hb); have NB140_166 := nl BK140 hg; have NB166_140 := ng BK140 hg; replace BK140 := b_ BK140 hb; clear hb hg; have hnb109 := NB166_140.out; have hnc109 := NB140_166.out; obtain ⟨z110_0, z110_1, z110_2, z110_3⟩ := ca4 BK166; obtain ⟨f110_0, f110_1, f110_2, f110_3⟩ := fa4 BK166; obtain ⟨Ao111, co111, eo111⟩ := Kd.R_slice HO_5.out; subst eo111; have p167 : 0 ≤ (x14_4 : Int) := of_decide_eq_true as_; have q167 : x14_4 < (x5_3.length : Int) := of_decide_eq_true as_; obtain ⟨ad167, e167, hx167_0⟩ := Kd.at_int (Kd.R_reads' HO_5.out).2.2 x14_4 p167 q167; cases e167; have hn167_0 : ad167.block ≠ gb166 := Kd.own_blk (Kd.R_ne HO_5.out BK166.out (by decide)); have hn167_1 : ad167.block ≠ gb166 := Kd.own_blk (Kd.R_ne HO_5.out BK166.out (by decide)); have hn167_2 : ad167.block ≠ gb166 := Kd.own_blk (Kd.R_ne HO_5.out BK166.out (by decide)); have hn167_3 : ad167.block ≠ gb166 := Kd.own_blk (Kd.R_ne HO_5.out BK166.out (by decide)); replace hx167_0 := (cell_far (p := ⟨gb166, 0, none⟩) (ab hn167_0) (.int .i64 t161)).trans hx167_0; replace hx167_0 := (cell_far (p := ⟨gb166, 1, none⟩) (ab hn167_1) (.int .i64 t162)).trans hx167_0; replace hx167_0 := (cell_far (p := ⟨gb166, 2, none⟩) (ab hn167_2) (.int .u32 t163)).trans hx167_0; replace hx167_0 := (cell_far (p := ⟨gb166, 3, none⟩) (ab hn167_3) (.int .i64 t164)).trans hx167_0; clear hn167_0; clear hn167_1; clear hn167_2; clear hn167_3; replace p167 := eq_true p167; replace q167 := eq_true q167; have p170 : 0 ≤ (x14_4 : Int) := of_decide_eq_true as_; have q170 : x14_4 < (x5_3.length : Int) := of_decide_eq_true as_; obtain ⟨ad170, e170, hx170_0⟩ := Kd.at_int (Kd.R_reads' HO_5.out).2.2 x14_4 p170 q170; obtain rfl : ad167 = ad170 := (by injection e170); have hn170_0 : ad167.block ≠ gb166 := Kd.own_blk (Kd.R_ne HO_5.out BK166.out (by decide)); have hn170_1 : ad167.block ≠ gb166 := Kd.own_blk (Kd.R_ne HO_5.out BK166.out (by decide)); have hn170_2 : ad167.block ≠ gb166 := Kd.own_blk (Kd.R_ne HO_5.out BK166.out (by decide)); have hn170_3 : ad167.block ≠ gb166 := Kd.own_blk (Kd.R_ne HO_5.out BK166.out (by decide)); replace hx170_0 := (cell_far (p := ⟨gb166, 0, none⟩) (ab hn170_0) (.int .i64 t161)).trans hx170_0; replace hx170_0 := (cell_far (p := ⟨gb166, 1, none⟩) (ab hn170_1) (.int .i64 t162)).trans hx170_0; replace hx170_0 := (cell_far (p := ⟨gb166, 2, none⟩) (ab hn170_2) (.int .u32 t163)).trans hx170_0; replace hx170_0 := (cell_far (p := ⟨gb166, 3, none⟩) (ab hn170_3) (.int .i64 t164)).trans hx170_0; clear hn170_0; clear hn170_1; clear hn170_2; clear hn170_3; replace p170 := eq_true p170; replace q170 := eq_true q170; have p171 : 0 ≤ (x14_4 : Int) := of_decide_eq_true as_; have q171 : x14_4 < (x5_3.length : Int) := of_decide_eq_true as_; obtain ⟨ad171, e171, hx171_0⟩ := Kd.at_int (Kd.R_reads' HO_5.out).2.2 x14_4 p171 q171; obtain rfl : ad167 = ad171 := (by injection e171); have hn171_0 : ad167.block ≠ gb166 := Kd.own_blk (Kd.R_ne HO_5.out BK166.out (by decide)); have hn171_1 : ad167.block ≠ gb166 := Kd.own_blk (Kd.R_ne HO_5.out BK166.out (by decide)); have hn171_2 : ad167.block ≠ gb166 := Kd.own_blk (Kd.R_ne HO_5.out BK166.out (by decide)); have hn171_3 : ad167.block ≠ gb166 := Kd.own_blk (Kd.R_ne HO_5.out BK166.out (by decide)); replace hx171_0 := (cell_far (p := ⟨gb166, 0, none⟩) (ab hn171_0) (.int .i64 t161)).trans hx171_0; replace hx171_0 := (cell_far (p := ⟨gb166, 1, none⟩) (ab hn171_1) (.int .i64 t162)).trans hx171_0; replace hx171_0 := (cell_far (p := ⟨gb166, 2, none⟩) (ab hn171_2) (.int .u32 t163)).trans hx171_0; replace hx171_0 := (cell_far (p := ⟨gb166, 3, none⟩) (ab hn171_3) (.int .i64 t164)).trans hx171_0; clear hn171_0; clear hn171_1; clear hn171_2; clear hn171_3; replace p171 := eq_true p171; replace q171 := eq_true q171))
                    go_roundg k4
                    case measure => have := HK1.out; have := HK2.out; have := HK3.out; have := HK4.out; omega
                    case rel => exact ⟨(wrap64 (x14_4 + 1)), ev, H', ⟨by have := HK1.out; have := HK2.out; have := HK3.out; have := HK4.out; omega⟩, ⟨by (with_reducible repeat (first | apply Kd.R_alloc | apply Kd.R_drewN | apply Kd.R_drew)); exact Kd.R_mono (Kd.R_far (p := ⟨gb166, 3, none⟩) (Kd.R_far (p := ⟨gb166, 2, none⟩) (Kd.R_far (p := ⟨gb166, 1, none⟩) (Kd.R_far (p := ⟨gb166, 0, none⟩) (Kd.R_types HO_5.out BK166.out (by decide)) (fun _ hk => hk.2) (.int .i64 t161)) (fun _ hk => hk.2) (.int .i64 t162)) (fun _ hk => hk.2) (.int .u32 t163)) (fun _ hk => hk.2) (.int .i64 t164)) (fun _ hk => trivial)⟩, ⟨bk BK140⟩, ⟨bw⟩⟩
                  ·simp only [Option.some.injEq, Prod.mk.injEq] at H
                   obtain ⟨rfl, rfl⟩ := H
                   obtain ⟨z112_0, z112_1⟩ := ca2 BK140
                   obtain ⟨f112_0, f112_1⟩ := fa2 BK140
                   have p160 : 0 ≤ (x14_4 : Int) := of_decide_eq_true as_
                   have q160 : x14_4 < (l0_0.length : Int) := of_decide_eq_true as_
                   obtain ⟨ad160, e160, hx160_0⟩ := Kd.at_int HR0_0.out x14_4 p160 q160
                   cases e160
                   replace hx160_0 := cl HB hx160_0
                   replace p160 := eq_true p160
                   replace q160 := eq_true q160
                   go_wp2_with (first | ((with_reducible refine gf 28 ?_); refine gc Tryz.func28 (some 123) (spec_CtlRead.calls _ _ _ _ _ _ _ _ A60.out) ?_; rintro e w113 ⟨rfl, hb⟩; refine ⟨_, rfl, ?_⟩; replace HO_5 := Aside0.mk (Kd.R_below (ro HO_5) hb); replace BK140 := b_ BK140 hb; replace HB := hs hb; try clear hb) | ((with_reducible refine gd 15 ?_); refine bx 15 61 #[.int .i64 0, .int .i64 0, .int .u32 0, .int .i64 0] ?_; clear HB; intro gb166 w114 hg BK166 hb GE166 HB; replace HO_5 := Aside0.mk (Kd.R_below (ro HO_5) hb); have NB140_166 := nl BK140 hg; have NB166_140 := ng BK140 hg; replace BK140 := b_ BK140 hb; clear hb hg; have hnb115 := NB166_140.out; have hnc115 := NB140_166.out; obtain ⟨z116_0, z116_1, z116_2, z116_3⟩ := ca4 BK166; obtain ⟨f116_0, f116_1, f116_2, f116_3⟩ := fa4 BK166; obtain ⟨Ao117, co117, eo117⟩ := Kd.R_slice HO_5.out; subst eo117; have p167 : 0 ≤ (x14_4 : Int) := of_decide_eq_true as_; have q167 : x14_4 < (x5_3.length : Int) := of_decide_eq_true as_; obtain ⟨ad167, e167, hx167_0⟩ := Kd.at_int (Kd.R_reads' HO_5.out).2.2 x14_4 p167 q167; cases e167; have hn167_0 : ad167.block ≠ gb166 := Kd.own_blk (Kd.R_ne HO_5.out BK166.out (by decide)); have hn167_1 : ad167.block ≠ gb166 := Kd.own_blk (Kd.R_ne HO_5.out BK166.out (by decide)); have hn167_2 : ad167.block ≠ gb166 := Kd.own_blk (Kd.R_ne HO_5.out BK166.out (by decide)); have hn167_3 : ad167.block ≠ gb166 := Kd.own_blk (Kd.R_ne HO_5.out BK166.out (by decide)); replace hx167_0 := (cell_far (p := ⟨gb166, 0, none⟩) (ab hn167_0) (.int .i64 t161)).trans hx167_0; replace hx167_0 := (cell_far (p := ⟨gb166, 1, none⟩) (ab hn167_1) (.int .i64 t162)).trans hx167_0; replace hx167_0 := (cell_far (p := ⟨gb166, 2, none⟩) (ab hn167_2) (.int .u32 t163)).trans hx167_0; replace hx167_0 := (cell_far (p := ⟨gb166, 3, none⟩) (ab hn167_3) (.int .i64 t164)).trans hx167_0; clear hn167_0; clear hn167_1; clear hn167_2; clear hn167_3; replace p167 := eq_true p167; replace q167 := eq_true q167; have p170 : 0 ≤ (x14_4 : Int) := of_decide_eq_true as_; have q170 : x14_4 < (x5_3.length : Int) := of_decide_eq_true as_; obtain ⟨ad170, e170, hx170_0⟩ := Kd.at_int (Kd.R_reads' HO_5.out).2.2 x14_4 p170 q170; obtain rfl : ad167 = ad170 := (by injection e170); have hn170_0 : ad167.block ≠ gb166 := Kd.own_blk (Kd.R_ne HO_5.out BK166.out (by decide)); have hn170_1 : ad167.block ≠ gb166 := Kd.own_blk (Kd.R_ne HO_5.out BK166.out (by decide)); have hn170_2 : ad167.block ≠ gb166 := Kd.own_blk (Kd.R_ne HO_5.out BK166.out (by decide)); have hn170_3 : ad167.block ≠ gb166 := Kd.own_blk (Kd.R_ne HO_5.out BK166.out (by decide)); replace hx170_0 := (cell_far (p := ⟨gb166, 0, none⟩) (ab hn170_0) (.int .i64 t161)).trans hx170_0; replace hx170_0 := (cell_far (p := ⟨gb166, 1, none⟩) (ab hn170_1) (.int .i64 t162)).trans hx170_0; replace hx170_0 := (cell_far (p := ⟨gb166, 2, none⟩) (ab hn170_2) (.int .u32 t163)).trans hx170_0; replace hx170_0 := (cell_far (p := ⟨gb166, 3, none⟩) (ab hn170_3) (.int .i64 t164)).trans hx170_0; clear hn170_0; clear hn170_1; clear hn170_2; clear hn170_3; replace p170 := eq_true p170; replace q170 := eq_true q170))
                   go_ret2
                   exact ⟨_, rt, by first | exact Kd.R_nil _ _ _ _ _ | exact Kd.N_nil _ _ _ _ _ | exact Kd.V_nil _ _ _ _ _ | exact Kd.Q_nil _ _ _ _ _ | exact Kd.S_nil _ _ _ _ _, bw⟩
                 ·replace H := ieq H
                  rcases H with ⟨c118b0, c118b1, H⟩ | ⟨c118, c118b0, c118b1, H⟩
                  ·replace H := ieq H
                   rcases H with ⟨c119b0, c119b1, H⟩ | ⟨c119, c119b0, c119b1, H⟩
                   ·have H' := Aside0.mk H
                    clear H
                    obtain ⟨z120_0, z120_1⟩ := ca2 BK140
                    obtain ⟨f120_0, f120_1⟩ := fa2 BK140
                    have p160 : 0 ≤ (x14_4 : Int) := of_decide_eq_true as_
                    have q160 : x14_4 < (l0_0.length : Int) := of_decide_eq_true as_
                    obtain ⟨ad160, e160, hx160_0⟩ := Kd.at_int HR0_0.out x14_4 p160 q160
                    cases e160
                    replace hx160_0 := cl HB hx160_0
                    replace p160 := eq_true p160
                    replace q160 := eq_true q160
                    go_wp2_with (first | ((with_reducible refine gf 28 ?_); refine gc Tryz.func28 (some 123) (spec_CtlRead.calls _ _ _ _ _ _ _ _ A60.out) ?_; rintro e w121 ⟨rfl, hb⟩; refine ⟨_, rfl, ?_⟩; replace HO_5 := Aside0.mk (Kd.R_below (ro HO_5) hb); replace BK140 := b_ BK140 hb; replace HB := hs hb; try clear hb) | ((with_reducible refine gd 15 ?_); refine bx 15 61 #[.int .i64 0, .int .i64 0, .int .u32 0, .int .i64 0] ?_; clear HB; intro gb166 w122 hg BK166 hb GE166 HB; replace HO_5 := Aside0.mk (Kd.R_below (ro HO_5) hb); have NB140_166 := nl BK140 hg; have NB166_140 := ng BK140 hg; replace BK140 := b_ BK140 hb; clear hb hg; have hnb123 := NB166_140.out; have hnc123 := NB140_166.out; obtain ⟨z124_0, z124_1, z124_2, z124_3⟩ := ca4 BK166; obtain ⟨f124_0, f124_1, f124_2, f124_3⟩ := fa4 BK166; obtain ⟨Ao125, co125, eo125⟩ := Kd.R_slice HO_5.out; subst eo125; have p167 : 0 ≤ (x14_4 : Int) := of_decide_eq_true as_; have q167 : x14_4 < (x5_3.length : Int) := of_decide_eq_true as_; obtain ⟨ad167, e167, hx167_0⟩ := Kd.at_int (Kd.R_reads' HO_5.out).2.2 x14_4 p167 q167; cases e167; have hn167_0 : ad167.block ≠ gb166 := Kd.own_blk (Kd.R_ne HO_5.out BK166.out (by decide)); have hn167_1 : ad167.block ≠ gb166 := Kd.own_blk (Kd.R_ne HO_5.out BK166.out (by decide)); have hn167_2 : ad167.block ≠ gb166 := Kd.own_blk (Kd.R_ne HO_5.out BK166.out (by decide)); have hn167_3 : ad167.block ≠ gb166 := Kd.own_blk (Kd.R_ne HO_5.out BK166.out (by decide)); replace hx167_0 := (cell_far (p := ⟨gb166, 0, none⟩) (ab hn167_0) (.int .i64 t161)).trans hx167_0; replace hx167_0 := (cell_far (p := ⟨gb166, 1, none⟩) (ab hn167_1) (.int .i64 t162)).trans hx167_0; replace hx167_0 := (cell_far (p := ⟨gb166, 2, none⟩) (ab hn167_2) (.int .u32 t163)).trans hx167_0; replace hx167_0 := (cell_far (p := ⟨gb166, 3, none⟩) (ab hn167_3) (.int .i64 t164)).trans hx167_0; clear hn167_0; clear hn167_1; clear hn167_2; clear hn167_3; replace p167 := eq_true p167; replace q167 := eq_true q167; have p170 : 0 ≤ (x14_4 : Int) := of_decide_eq_true as_; have q170 : x14_4 < (x5_3.length : Int) := of_decide_eq_true as_; obtain ⟨ad170, e170, hx170_0⟩ := Kd.at_int (Kd.R_reads' HO_5.out).2.2 x14_4 p170 q170; obtain rfl : ad167 = ad170 := (by injection e170); have hn170_0 : ad167.block ≠ gb166 := Kd.own_blk (Kd.R_ne HO_5.out BK166.out (by decide)); have hn170_1 : ad167.block ≠ gb166 := Kd.own_blk (Kd.R_ne HO_5.out BK166.out (by decide)); have hn170_2 : ad167.block ≠ gb166 := Kd.own_blk (Kd.R_ne HO_5.out BK166.out (by decide)); have hn170_3 : ad167.block ≠ gb166 := Kd.own_blk (Kd.R_ne HO_5.out BK166.out (by decide)); replace hx170_0 := (cell_far (p := ⟨gb166, 0, none⟩) (ab hn170_0) (.int .i64 t161)).trans hx170_0; replace hx170_0 := (cell_far (p := ⟨gb166, 1, none⟩) (ab hn170_1) (.int .i64 t162)).trans hx170_0; replace hx170_0 := (cell_far (p := ⟨gb166, 2, none⟩) (ab hn170_2) (.int .u32 t163)).trans hx170_0; replace hx170_0 := (cell_far (p := ⟨gb166, 3, none⟩) (ab hn170_3) (.int .i64 t164)).trans hx170_0; clear hn170_0; clear hn170_1; clear hn170_2; clear hn170_3; replace p170 := eq_true p170; replace q170 := eq_true q170; have p172 : 0 ≤ (x14_4 : Int) := of_decide_eq_true as_; have q172 : x14_4 < (x5_3.length : Int) := of_decide_eq_true as_; obtain ⟨ad172, e172, hx172_0⟩ := Kd.at_int (Kd.R_reads' HO_5.out).2.2 x14_4 p172 q172; obtain rfl : ad167 = ad172 := (by injection e172); have hn172_0 : ad167.block ≠ gb166 := Kd.own_blk (Kd.R_ne HO_5.out BK166.out (by decide)); have hn172_1 : ad167.block ≠ gb166 := Kd.own_blk (Kd.R_ne HO_5.out BK166.out (by decide)); have hn172_2 : ad167.block ≠ gb166 := Kd.own_blk (Kd.R_ne HO_5.out BK166.out (by decide)); have hn172_3 : ad167.block ≠ gb166 := Kd.own_blk (Kd.R_ne HO_5.out BK166.out (by decide)); replace hx172_0 := (cell_far (p := ⟨gb166, 0, none⟩) (ab hn172_0) (.int .i64 t161)).trans hx172_0; replace hx172_0 := (cell_far (p := ⟨gb166, 1, none⟩) (ab hn172_1) (.int .i64 t162)).trans hx172_0; replace hx172_0 := (cell_far (p := ⟨gb166, 2, none⟩) (ab hn172_2) (.int .u32 t163)).trans hx172_0; replace hx172_0 := (cell_far (p := ⟨gb166, 3, none⟩) (ab hn172_3) (.int .i64 t164)).trans hx172_0; clear hn172_0; clear hn172_1; clear hn172_2; clear hn172_3; replace p172 := eq_true p172; replace q172 := eq_true q172))
                    go_roundg k4
                    case measure => have := HK1.out; have := HK2.out; have := HK3.out; have := HK4.out; omega
                    case rel => exact ⟨(wrap64 (x14_4 + 1)), ev, H', ⟨by have := HK1.out; have := HK2.out; have := HK3.out; have := HK4.out; omega⟩, ⟨by (with_reducible repeat (first | apply Kd.R_alloc | apply Kd.R_drewN | apply Kd.R_drew)); exact Kd.R_mono (Kd.R_far (p := ⟨gb166, 3, none⟩) (Kd.R_far (p := ⟨gb166, 2, none⟩) (Kd.R_far (p := ⟨gb166, 1, none⟩) (Kd.R_far (p := ⟨gb166, 0, none⟩) (Kd.R_types HO_5.out BK166.out (by decide)) (fun _ hk => hk.2) (.int .i64 t161)) (fun _ hk => hk.2) (.int .i64 t162)) (fun _ hk => hk.2) (.int .u32 t163)) (fun _ hk => hk.2) (.int .i64 t164)) (fun _ hk => trivial)⟩, ⟨bk BK140⟩, ⟨bw⟩⟩
                   ·have HU126 := Aside0.mk H
                    clear H
                    obtain ⟨z127_0, z127_1⟩ := ca2 BK140
                    obtain ⟨f127_0, f127_1⟩ := fa2 BK140
                    have p160 : 0 ≤ (x14_4 : Int) := of_decide_eq_true as_
                    have q160 : x14_4 < (l0_0.length : Int) := of_decide_eq_true as_
                    obtain ⟨ad160, e160, hx160_0⟩ := Kd.at_int HR0_0.out x14_4 p160 q160
                    cases e160
                    replace hx160_0 := cl HB hx160_0
                    replace p160 := eq_true p160
                    replace q160 := eq_true q160
                    go_upto_if 168 with (first | ((with_reducible refine gf 28 ?_); refine gc Tryz.func28 (some 123) (spec_CtlRead.calls _ _ _ _ _ _ _ _ A60.out) ?_; rintro e w128 ⟨rfl, hb⟩; refine ⟨_, rfl, ?_⟩; replace HO_5 := Aside0.mk (Kd.R_below (ro HO_5) hb); replace BK140 := b_ BK140 hb; replace HB := hs hb; try clear hb) | ((with_reducible refine gd 15 ?_); refine bx 15 61 #[.int .i64 0, .int .i64 0, .int .u32 0, .int .i64 0] ?_; clear HB; intro gb166 w129 hg BK166 hb GE166 HB; replace HO_5 := Aside0.mk (Kd.R_below (ro HO_5) hb); have NB140_166 := nl BK140 hg; have NB166_140 := ng BK140 hg; replace BK140 := b_ BK140 hb; clear hb hg; have hnb130 := NB166_140.out; have hnc130 := NB140_166.out; obtain ⟨z131_0, z131_1, z131_2, z131_3⟩ := ca4 BK166; obtain ⟨f131_0, f131_1, f131_2, f131_3⟩ := fa4 BK166; obtain ⟨Ao132, co132, eo132⟩ := Kd.R_slice HO_5.out; subst eo132; have p167 : 0 ≤ (x14_4 : Int) := of_decide_eq_true as_; have q167 : x14_4 < (x5_3.length : Int) := of_decide_eq_true as_; obtain ⟨ad167, e167, hx167_0⟩ := Kd.at_int (Kd.R_reads' HO_5.out).2.2 x14_4 p167 q167; cases e167; have hn167_0 : ad167.block ≠ gb166 := Kd.own_blk (Kd.R_ne HO_5.out BK166.out (by decide)); have hn167_1 : ad167.block ≠ gb166 := Kd.own_blk (Kd.R_ne HO_5.out BK166.out (by decide)); have hn167_2 : ad167.block ≠ gb166 := Kd.own_blk (Kd.R_ne HO_5.out BK166.out (by decide)); have hn167_3 : ad167.block ≠ gb166 := Kd.own_blk (Kd.R_ne HO_5.out BK166.out (by decide)); replace hx167_0 := (cell_far (p := ⟨gb166, 0, none⟩) (ab hn167_0) (.int .i64 t161)).trans hx167_0; replace hx167_0 := (cell_far (p := ⟨gb166, 1, none⟩) (ab hn167_1) (.int .i64 t162)).trans hx167_0; replace hx167_0 := (cell_far (p := ⟨gb166, 2, none⟩) (ab hn167_2) (.int .u32 t163)).trans hx167_0; replace hx167_0 := (cell_far (p := ⟨gb166, 3, none⟩) (ab hn167_3) (.int .i64 t164)).trans hx167_0; clear hn167_0; clear hn167_1; clear hn167_2; clear hn167_3; replace p167 := eq_true p167; replace q167 := eq_true q167; have p170 : 0 ≤ (x14_4 : Int) := of_decide_eq_true as_; have q170 : x14_4 < (x5_3.length : Int) := of_decide_eq_true as_; obtain ⟨ad170, e170, hx170_0⟩ := Kd.at_int (Kd.R_reads' HO_5.out).2.2 x14_4 p170 q170; obtain rfl : ad167 = ad170 := (by injection e170); have hn170_0 : ad167.block ≠ gb166 := Kd.own_blk (Kd.R_ne HO_5.out BK166.out (by decide)); have hn170_1 : ad167.block ≠ gb166 := Kd.own_blk (Kd.R_ne HO_5.out BK166.out (by decide)); have hn170_2 : ad167.block ≠ gb166 := Kd.own_blk (Kd.R_ne HO_5.out BK166.out (by decide)); have hn170_3 : ad167.block ≠ gb166 := Kd.own_blk (Kd.R_ne HO_5.out BK166.out (by decide)); replace hx170_0 := (cell_far (p := ⟨gb166, 0, none⟩) (ab hn170_0) (.int .i64 t161)).trans hx170_0; replace hx170_0 := (cell_far (p := ⟨gb166, 1, none⟩) (ab hn170_1) (.int .i64 t162)).trans hx170_0; replace hx170_0 := (cell_far (p := ⟨gb166, 2, none⟩) (ab hn170_2) (.int .u32 t163)).trans hx170_0; replace hx170_0 := (cell_far (p := ⟨gb166, 3, none⟩) (ab hn170_3) (.int .i64 t164)).trans hx170_0; clear hn170_0; clear hn170_1; clear hn170_2; clear hn170_3; replace p170 := eq_true p170; replace q170 := eq_true q170; have p172 : 0 ≤ (x14_4 : Int) := of_decide_eq_true as_; have q172 : x14_4 < (x5_3.length : Int) := of_decide_eq_true as_; obtain ⟨ad172, e172, hx172_0⟩ := Kd.at_int (Kd.R_reads' HO_5.out).2.2 x14_4 p172 q172; obtain rfl : ad167 = ad172 := (by injection e172); have hn172_0 : ad167.block ≠ gb166 := Kd.own_blk (Kd.R_ne HO_5.out BK166.out (by decide)); have hn172_1 : ad167.block ≠ gb166 := Kd.own_blk (Kd.R_ne HO_5.out BK166.out (by decide)); have hn172_2 : ad167.block ≠ gb166 := Kd.own_blk (Kd.R_ne HO_5.out BK166.out (by decide)); have hn172_3 : ad167.block ≠ gb166 := Kd.own_blk (Kd.R_ne HO_5.out BK166.out (by decide)); replace hx172_0 := (cell_far (p := ⟨gb166, 0, none⟩) (ab hn172_0) (.int .i64 t161)).trans hx172_0; replace hx172_0 := (cell_far (p := ⟨gb166, 1, none⟩) (ab hn172_1) (.int .i64 t162)).trans hx172_0; replace hx172_0 := (cell_far (p := ⟨gb166, 2, none⟩) (ab hn172_2) (.int .u32 t163)).trans hx172_0; replace hx172_0 := (cell_far (p := ⟨gb166, 3, none⟩) (ab hn172_3) (.int .i64 t164)).trans hx172_0; clear hn172_0; clear hn172_1; clear hn172_2; clear hn172_3; replace p172 := eq_true p172; replace q172 := eq_true q172))
                    (try refine ap ?_)
                    have H := HU126.out
                    clear HU126
                    replace H := ieq H
                    rcases H with ⟨c133b0, c133b1, H⟩ | ⟨c133, c133b0, c133b1, H⟩
                    ·(first | rw [c133b0] | (simp only [i64_w, i32_w]; rw [c133b0]) | (simp only [c133b2, Bool.not_true, Bool.not_false]) | (simp only [c133b1, Bool.not_true, Bool.not_false]) | skip)
                     have H' := Aside0.mk H
                     clear H
                     go_wp2
                     go_roundg k4
                     case measure => have := HK1.out; have := HK2.out; have := HK3.out; have := HK4.out; omega
                     case rel => exact ⟨(wrap64 (x14_4 + 1)), ev, H', ⟨by have := HK1.out; have := HK2.out; have := HK3.out; have := HK4.out; omega⟩, ⟨by (with_reducible repeat (first | apply Kd.R_alloc | apply Kd.R_drewN | apply Kd.R_drew)); exact Kd.R_mono (Kd.R_far (p := ⟨gb166, 3, none⟩) (Kd.R_far (p := ⟨gb166, 2, none⟩) (Kd.R_far (p := ⟨gb166, 1, none⟩) (Kd.R_far (p := ⟨gb166, 0, none⟩) (Kd.R_types HO_5.out BK166.out (by decide)) (fun _ hk => hk.2) (.int .i64 t161)) (fun _ hk => hk.2) (.int .i64 t162)) (fun _ hk => hk.2) (.int .u32 t163)) (fun _ hk => hk.2) (.int .i64 t164)) (fun _ hk => trivial)⟩, ⟨bk BK140⟩, ⟨bw⟩⟩
                    ·(first | rw [c133b0] | (simp only [i64_w, i32_w]; rw [c133b0]) | (simp only [c133b2, Bool.not_true, Bool.not_false]) | (simp only [c133b1, Bool.not_true, Bool.not_false]) | skip)
                     simp only [Option.some.injEq, Prod.mk.injEq] at H
                     obtain ⟨rfl, rfl⟩ := H
                     go_wp2
                     go_ret2
                     exact ⟨_, rt, by first | exact Kd.R_nil _ _ _ _ _ | exact Kd.N_nil _ _ _ _ _ | exact Kd.V_nil _ _ _ _ _ | exact Kd.Q_nil _ _ _ _ _ | exact Kd.S_nil _ _ _ _ _, bw⟩
                  ·have H' := Aside0.mk H
                   clear H
                   obtain ⟨z134_0, z134_1⟩ := ca2 BK140
                   obtain ⟨f134_0, f134_1⟩ := fa2 BK140
                   have p160 : 0 ≤ (x14_4 : Int) := of_decide_eq_true as_
                   have q160 : x14_4 < (l0_0.length : Int) := of_decide_eq_true as_
                   obtain ⟨ad160, e160, hx160_0⟩ := Kd.at_int HR0_0.out x14_4 p160 q160
                   cases e160
                   replace hx160_0 := cl HB hx160_0
                   replace p160 := eq_true p160
                   replace q160 := eq_true q160
                   go_wp2_with (first | ((with_reducible refine gf 28 ?_); refine gc Tryz.func28 (some 123) (spec_CtlRead.calls _ _ _ _ _ _ _ _ A60.out) ?_; rintro e w135 ⟨rfl, hb⟩; refine ⟨_, rfl, ?_⟩; replace HO_5 := Aside0.mk (Kd.R_below (ro HO_5) hb); replace BK140 := b_ BK140 hb; replace HB := hs hb; try clear hb) | ((with_reducible refine gd 15 ?_); refine bx 15 61 #[.int .i64 0, .int .i64 0, .int .u32 0, .int .i64 0] ?_; clear HB; intro gb166 w136 hg BK166 hb GE166 HB; replace HO_5 := Aside0.mk (Kd.R_below (ro HO_5) hb); have NB140_166 := nl BK140 hg; have NB166_140 := ng BK140 hg; replace BK140 := b_ BK140 hb; clear hb hg; have hnb137 := NB166_140.out; have hnc137 := NB140_166.out; obtain ⟨z138_0, z138_1, z138_2, z138_3⟩ := ca4 BK166; obtain ⟨f138_0, f138_1, f138_2, f138_3⟩ := fa4 BK166; obtain ⟨Ao139, co139, eo139⟩ := Kd.R_slice HO_5.out; subst eo139; have p167 : 0 ≤ (x14_4 : Int) := of_decide_eq_true as_; have q167 : x14_4 < (x5_3.length : Int) := of_decide_eq_true as_; obtain ⟨ad167, e167, hx167_0⟩ := Kd.at_int (Kd.R_reads' HO_5.out).2.2 x14_4 p167 q167; cases e167; have hn167_0 : ad167.block ≠ gb166 := Kd.own_blk (Kd.R_ne HO_5.out BK166.out (by decide)); have hn167_1 : ad167.block ≠ gb166 := Kd.own_blk (Kd.R_ne HO_5.out BK166.out (by decide)); have hn167_2 : ad167.block ≠ gb166 := Kd.own_blk (Kd.R_ne HO_5.out BK166.out (by decide)); have hn167_3 : ad167.block ≠ gb166 := Kd.own_blk (Kd.R_ne HO_5.out BK166.out (by decide)); replace hx167_0 := (cell_far (p := ⟨gb166, 0, none⟩) (ab hn167_0) (.int .i64 t161)).trans hx167_0; replace hx167_0 := (cell_far (p := ⟨gb166, 1, none⟩) (ab hn167_1) (.int .i64 t162)).trans hx167_0; replace hx167_0 := (cell_far (p := ⟨gb166, 2, none⟩) (ab hn167_2) (.int .u32 t163)).trans hx167_0; replace hx167_0 := (cell_far (p := ⟨gb166, 3, none⟩) (ab hn167_3) (.int .i64 t164)).trans hx167_0; clear hn167_0; clear hn167_1; clear hn167_2; clear hn167_3; replace p167 := eq_true p167; replace q167 := eq_true q167; have p170 : 0 ≤ (x14_4 : Int) := of_decide_eq_true as_; have q170 : x14_4 < (x5_3.length : Int) := of_decide_eq_true as_; obtain ⟨ad170, e170, hx170_0⟩ := Kd.at_int (Kd.R_reads' HO_5.out).2.2 x14_4 p170 q170; obtain rfl : ad167 = ad170 := (by injection e170); have hn170_0 : ad167.block ≠ gb166 := Kd.own_blk (Kd.R_ne HO_5.out BK166.out (by decide)); have hn170_1 : ad167.block ≠ gb166 := Kd.own_blk (Kd.R_ne HO_5.out BK166.out (by decide)); have hn170_2 : ad167.block ≠ gb166 := Kd.own_blk (Kd.R_ne HO_5.out BK166.out (by decide)); have hn170_3 : ad167.block ≠ gb166 := Kd.own_blk (Kd.R_ne HO_5.out BK166.out (by decide)); replace hx170_0 := (cell_far (p := ⟨gb166, 0, none⟩) (ab hn170_0) (.int .i64 t161)).trans hx170_0; replace hx170_0 := (cell_far (p := ⟨gb166, 1, none⟩) (ab hn170_1) (.int .i64 t162)).trans hx170_0; replace hx170_0 := (cell_far (p := ⟨gb166, 2, none⟩) (ab hn170_2) (.int .u32 t163)).trans hx170_0; replace hx170_0 := (cell_far (p := ⟨gb166, 3, none⟩) (ab hn170_3) (.int .i64 t164)).trans hx170_0; clear hn170_0; clear hn170_1; clear hn170_2; clear hn170_3; replace p170 := eq_true p170; replace q170 := eq_true q170; have p172 : 0 ≤ (x14_4 : Int) := of_decide_eq_true as_; have q172 : x14_4 < (x5_3.length : Int) := of_decide_eq_true as_; obtain ⟨ad172, e172, hx172_0⟩ := Kd.at_int (Kd.R_reads' HO_5.out).2.2 x14_4 p172 q172; obtain rfl : ad167 = ad172 := (by injection e172); have hn172_0 : ad167.block ≠ gb166 := Kd.own_blk (Kd.R_ne HO_5.out BK166.out (by decide)); have hn172_1 : ad167.block ≠ gb166 := Kd.own_blk (Kd.R_ne HO_5.out BK166.out (by decide)); have hn172_2 : ad167.block ≠ gb166 := Kd.own_blk (Kd.R_ne HO_5.out BK166.out (by decide)); have hn172_3 : ad167.block ≠ gb166 := Kd.own_blk (Kd.R_ne HO_5.out BK166.out (by decide)); replace hx172_0 := (cell_far (p := ⟨gb166, 0, none⟩) (ab hn172_0) (.int .i64 t161)).trans hx172_0; replace hx172_0 := (cell_far (p := ⟨gb166, 1, none⟩) (ab hn172_1) (.int .i64 t162)).trans hx172_0; replace hx172_0 := (cell_far (p := ⟨gb166, 2, none⟩) (ab hn172_2) (.int .u32 t163)).trans hx172_0; replace hx172_0 := (cell_far (p := ⟨gb166, 3, none⟩) (ab hn172_3) (.int .i64 t164)).trans hx172_0; clear hn172_0; clear hn172_1; clear hn172_2; clear hn172_3; replace p172 := eq_true p172; replace q172 := eq_true q172))
                   go_roundg k4
                   case measure => have := HK1.out; have := HK2.out; have := HK3.out; have := HK4.out; omega
                   case rel => exact ⟨(wrap64 (x14_4 + 1)), ev, H', ⟨by have := HK1.out; have := HK2.out; have := HK3.out; have := HK4.out; omega⟩, ⟨by (with_reducible repeat (first | apply Kd.R_alloc | apply Kd.R_drewN | apply Kd.R_drew)); exact Kd.R_mono (Kd.R_far (p := ⟨gb166, 3, none⟩) (Kd.R_far (p := ⟨gb166, 2, none⟩) (Kd.R_far (p := ⟨gb166, 1, none⟩) (Kd.R_far (p := ⟨gb166, 0, none⟩) (Kd.R_types HO_5.out BK166.out (by decide)) (fun _ hk => hk.2) (.int .i64 t161)) (fun _ hk => hk.2) (.int .i64 t162)) (fun _ hk => hk.2) (.int .u32 t163)) (fun _ hk => hk.2) (.int .i64 t164)) (fun _ hk => trivial)⟩, ⟨bk BK140⟩, ⟨bw⟩⟩
               ·rw [if_neg c61] at H
                exact absurd H (by simp)
              ·rw [if_neg c59] at H
               exact absurd H (by simp)
             ·rw [if_neg c58] at H
              exact absurd H (by simp)
            ·simp only [Option.some.injEq, Prod.mk.injEq] at H
             obtain ⟨rfl, rfl⟩ := H
             go_wp2
             go_ret2
             exact ⟨_, rt, ro HO_5, bw⟩

end Go.Proofs.YtfhcnnkeokjfpaaGreatDoor.PO1
