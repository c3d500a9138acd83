/- What functions of the program compute, each as a Lean function, and that the run comes to just that. Conditions: none. -/
import Derived.Test.YtfhcnnkeokjfpaaGreatDoorTO1
import Derived.Test.YtfhcnnkeokjfpaaGreatDoorPO1x0
import Derived.Test.YtfhcnnkeokjfpaaGreatDoorPO1x1
import Derived.Test.YtfhcnnkeokjfpaaGreatDoorT2O1
namespace Go.Proofs.YtfhcnnkeokjfpaaGreatDoor.PO1
open Go.RowKit Go.Proofs.YtfhcnnkeokjfpaaGreatDoorW.PrintWords Go.Proofs.YtfhcnnkeokjfpaaGreatDoorW.PrintLast Go.Proofs.YtfhcnnkeokjfpaaGreatDoorW.PrintMore Go.Proofs.YtfhcnnkeokjfpaaGreatDoor.T
attribute [local go_sem] max2_int min2_int max_two min_two max_three min_three max_four min_four   -- for this text's walks alone
set_option linter.unusedVariables false
set_option linter.unusedSimpArgs false

/-! ### spec_l07MemOk: function 26 -/
def spec_l07MemOk.l0 : Nat → Int → List Int → Option (Bool)
 | 0, _, _ => none
 | k + 1, x3, x174000 => if x3 < (x174000.length : Int) then (if 0 ≤ x3 then ((spec_CtlRead.f k (rd x174000 x3)).bind fun bt175 => (if bt175.2.2.2.2 = true then (spec_l07MemOk.l0 k (wrap64 (x3 + 1)) x174000) else (some false))) else (none)) else (some true)
def spec_l07MemOk.f (k : Nat) (l0_0 : List Int) : Option (Bool) := if (l0_0.length : Int) > 16 then (some false) else (spec_l07MemOk.l0 k 0 l0_0)
theorem spec_l07MemOk.mono_l : ∀ k, (∀ y0 y1, LeO (spec_l07MemOk.l0 k y0 y1) (spec_l07MemOk.l0 (k + 1) y0 y1))
 | 0 => fun _ _ r h => by simp [spec_l07MemOk.l0] at h
 | k + 1 => by
  have ih0 := spec_l07MemOk.mono_l k
  ·intro y0 y1
   unfold spec_l07MemOk.l0
   repeat' first
    | (with_reducible first | exact ih0 .. | exact spec_CtlRead.mono .. | exact LeO.refl _ | exact LeO.none _ | refine LeO.ite ?_ ?_ | refine LeO.bind ?_ (fun _ => ?_))
    | exact LeO.none _ | refine LeO.ite ?_ ?_ | refine LeO.bind ?_ (fun _ => ?_)
theorem spec_l07MemOk.mono : ∀ a0 k, LeO (spec_l07MemOk.f k a0) (spec_l07MemOk.f (k + 1) a0) := by
 intro a0 k
 have ih0 := spec_l07MemOk.mono_l k
 unfold spec_l07MemOk.f
 repeat' first
  | (with_reducible first | exact ih0 .. | exact spec_CtlRead.mono .. | exact LeO.refl _ | exact LeO.none _ | refine LeO.ite ?_ ?_ | refine LeO.bind ?_ (fun _ => ?_))
  | exact LeO.none _ | refine LeO.ite ?_ ?_ | refine LeO.bind ?_ (fun _ => ?_)
set_option maxHeartbeats 2000000 in
set_option maxRecDepth 100000 in
theorem spec_l07MemOk.calls (k : Nat) (A0_0 : Option Addr) (c0_0 : Nat) (l0_0 : List Int) (r : Bool) (w : World) (hr0_0 : Kd.C (Kd.int .u32) w A0_0 l0_0.length l0_0) (hc0_0 : l0_0.length ≤ c0_0) (h : spec_l07MemOk.f k l0_0 = some r) :
  Calls Tryz.prog 26 #[.agg #[.slice A0_0 l0_0.length c0_0]] w fun e w' => e = .returned (.bool r) ∧ Below w.heap.size w w' := by
 have hu31 := Tryz.underlying31
 have hu61 := Tryz.underlying61
 have HR0_0 := Aside0.mk hr0_0
 have HC0_0 := Aside0.mk hc0_0
 clear hr0_0 hc0_0
 have HB := Aside0.mk (Below.refl w.heap.size w)
 unfold spec_l07MemOk.f at h
 have H := h
 clear h
 have HU2 := Aside0.mk H
 clear H
 go_enter Tryz.func26, Tryz.ntmps26
 go_upto_if 9 with (first | ((with_reducible refine gd 1 ?_); refine bx 1 31 #[.slice A0_0 l0_0.length c0_0] ?_; clear HB; intro gb173 w3 hg BK173 hb GE173 HB; clear hb hg; have z4_0 := ca1 BK173; have f4_0 := blk_frozen BK173.out 0))
 (try refine ap ?_)
 have H := HU2.out
 clear HU2
 by_cases c5 : (l0_0.length : Int) > 16
 ·rw [if_pos c5] at H
  have c5b0 : decide (16 < (l0_0.length : Int)) = true := decide_eq_true c5
  have c5b1 : decide (16 < l0_0.length) = true := decide_eq_true (by omega)
  clear c5
  (first | rw [c5b0] | (simp only [i64_w, i32_w]; rw [c5b0]) | (simp only [c5b2, Bool.not_true, Bool.not_false]) | (simp only [c5b1, Bool.not_true, Bool.not_false]) | skip)
  obtain rfl := Option.some.inj H
  go_wp2
  go_ret
  exact ⟨rt, bw⟩
 ·rw [if_neg c5] at H
  have c5b0 : decide (16 < (l0_0.length : Int)) = false := decide_eq_false c5
  have c5b1 : decide (16 < l0_0.length) = false := decide_eq_false (by omega)
  clear c5
  (first | rw [c5b0] | (simp only [i64_w, i32_w]; rw [c5b0]) | (simp only [c5b2, Bool.not_true, Bool.not_false]) | (simp only [c5b1, Bool.not_true, Bool.not_false]) | skip)
  have H' := Aside0.mk H
  clear H
  go_wp2
  go_loopg [3] k (fun kq v3 w' => ∃ (x3_1 : Int), v3 = .int .i64 x3_1 ∧ Aside0 (spec_l07MemOk.l0 kq x3_1 l0_0 = some r) ∧ Aside0 (kq ≤ k) ∧ Aside0 (w'.heap[gb173]? = some (.cells #[(.slice A0_0 l0_0.length c0_0)] 31 (0, 0))) ∧ Aside0 (Below w.heap.size w w'))
  case atStart => exact ⟨(0), ev, H', ⟨Nat.le_refl _⟩, ⟨bk BK173⟩, ⟨bw⟩⟩
  case round =>
   clear H'
   try clear c5
   try clear c5b0
   try clear c5b1
   try clear c5b2
   (try clear z4_0)
   (try clear f4_0)
   obtain ⟨x3_1, rfl, HA, HK1, BK173, HB⟩ := hrel
   cases gk with
   | zero => exact absurd HA.out (by simp [spec_l07MemOk.l0])
   | succ k1 =>
    have H := HA.out
    clear HA
    simp only [spec_l07MemOk.l0] at H
    replace H := ilt H
    rcases H with ⟨c6b0, H⟩ | ⟨c6b0, H⟩
    ·by_cases c7 : 0 ≤ x3_1
     ·rw [if_pos c7] at H
      have c7b0 : decide (0 ≤ x3_1) = true := decide_eq_true c7
      clear c7
      replace H := bn H
      obtain ⟨⟨t175, t176, t177, t178, t179⟩, A8, H⟩ := H
      try dsimp only at H
      have HU9 := Aside0.mk H
      clear H
      have z10_0 := ca1 BK173
      have f10_0 := blk_frozen BK173.out 0
      have p174 : 0 ≤ (x3_1 : Int) := of_decide_eq_true as_
      have q174 : x3_1 < (l0_0.length : Int) := of_decide_eq_true as_
      obtain ⟨ad174, e174, hx174_0⟩ := Kd.at_int HR0_0.out x3_1 p174 q174
      cases e174
      replace hx174_0 := cl HB hx174_0
      replace p174 := eq_true p174
      replace q174 := eq_true q174
      go_upto_if 27 with (first | ((with_reducible refine gf 28 ?_); refine gc Tryz.func28 (some 23) (spec_CtlRead.calls _ _ _ _ _ _ _ _ A8.out) ?_; rintro e w11 ⟨rfl, hb⟩; refine ⟨_, rfl, ?_⟩; replace BK173 := b_ BK173 hb; replace HB := hs hb; try clear hb) | ((with_reducible refine gd 4 ?_); refine bx 4 61 #[.int .i64 0, .int .i64 0, .int .u32 0, .int .i64 0] ?_; clear HB; intro gb180 w12 hg BK180 hb GE180 HB; have NB173_180 := nl BK173 hg; have NB180_173 := ng BK173 hg; replace BK173 := b_ BK173 hb; clear hb hg; have hnb13 := NB180_173.out; have hnc13 := NB173_180.out; obtain ⟨z14_0, z14_1, z14_2, z14_3⟩ := ca4 BK180; obtain ⟨f14_0, f14_1, f14_2, f14_3⟩ := fa4 BK180))
      (try refine ap ?_)
      have H := HU9.out
      clear HU9
      replace H := ib H
      rcases H with ⟨rfl, H⟩ | ⟨rfl, H⟩
      ·(try simp only [Bool.not_true, Bool.not_false])
       have H' := Aside0.mk H
       clear H
       go_wp2
       go_roundg k1
       case measure => have := HK1.out; omega
       case rel => exact ⟨(wrap64 (x3_1 + 1)), ev, H', ⟨oa HK1⟩, ⟨bk BK173⟩, ⟨bw⟩⟩
      ·(try simp only [Bool.not_true, Bool.not_false])
       obtain rfl := Option.some.inj H
       go_wp2
       go_ret
       exact ⟨rt, bw⟩
     ·rw [if_neg c7] at H
      exact absurd H (by simp)
    ·obtain rfl := Option.some.inj H
     have z16_0 := ca1 BK173
     have f16_0 := blk_frozen BK173.out 0
     go_wp2
     go_ret
     exact ⟨rt, bw⟩

/-! ### spec_l03Row: function 44 -/
def spec_l03Row.f (l0 : List Int) : Option (Bool) := some ((l0.length : Int) == 8)
set_option maxHeartbeats 2000000 in
set_option maxRecDepth 100000 in
theorem spec_l03Row.calls (A0 : Option Addr) (c0 : Nat) (l0 : List Int) (r : Bool) (w : World) (hr0 : Kd.C (Kd.int .i64) w A0 l0.length l0) (hc0 : l0.length ≤ c0) (h : spec_l03Row.f l0 = some r) :
  Calls Tryz.prog 44 #[.slice A0 l0.length c0] w fun e w' => e = .returned (.bool r) ∧ Drawn0 w w' := by
 have HR0 := Aside0.mk hr0
 have HC0 := Aside0.mk hc0
 clear hr0 hc0
 unfold spec_l03Row.f at h
 have H := h
 clear h
 obtain rfl := Option.some.inj H
 go_enter Tryz.func44, Tryz.ntmps44
 go_wp2
 go_ret
 exact ⟨ev, dr⟩

/-! ### spec_l03Mask: function 45 -/
def spec_l03Mask.f (k : Nat) (a0 : Int) : Option (Bool) := (spec_Highest.f k a0).bind fun t181 => (some (decide (t181 < 8)))
theorem spec_l03Mask.mono : ∀ a0 k, LeO (spec_l03Mask.f k a0) (spec_l03Mask.f (k + 1) a0) := by
 intro a0 k
 unfold spec_l03Mask.f
 repeat' first
  | (with_reducible first | exact spec_Highest.mono .. | exact LeO.refl _ | exact LeO.none _ | refine LeO.ite ?_ ?_ | refine LeO.bind ?_ (fun _ => ?_))
  | exact LeO.none _ | refine LeO.ite ?_ ?_ | refine LeO.bind ?_ (fun _ => ?_)
set_option maxHeartbeats 2000000 in
set_option maxRecDepth 100000 in
theorem spec_l03Mask.calls (k : Nat) (a0 : Int) (r : Bool) (w : World) (h : spec_l03Mask.f k a0 = some r) :
  Calls Tryz.prog 45 #[.int .u32 a0] w fun e w' => e = .returned (.bool r) ∧ Below w.heap.size w w' := by
 have HB := Aside0.mk (Below.refl w.heap.size w)
 unfold spec_l03Mask.f at h
 have H := h
 clear h
 replace H := bn H
 obtain ⟨t181, A2, H⟩ := H
 try dsimp only at H
 obtain rfl := Option.some.inj H
 go_enter Tryz.func45, Tryz.ntmps45
 go_wp2_with (first | ((with_reducible refine gf 69 ?_); refine gc Tryz.func69 (some 4) (spec_Highest.calls _ _ _ _ A2.out) ?_; rintro e w3 ⟨rfl, hb⟩; refine ⟨_, rfl, ?_⟩; replace HB := hs hb; try clear hb))
 go_ret
 exact ⟨rt, bw⟩

/-! ### spec_ReqOk: function 46 -/
mutual
def spec_ReqOk.j0 : Nat → Bool → Int → List Int → Option (Bool)
 | 0, _, _, _ => none
 | k + 1, x18, x183000, x183001 => if x18 = true then (some false) else (spec_ReqOk.l0 k 0 x183000 x183001)
def spec_ReqOk.l0 : Nat → Int → Int → List Int → Option (Bool)
 | 0, _, _, _ => none
 | k + 1, x3, x183000, x183001 => if x3 < (x183001.length : Int) then (if 0 ≤ x3 then (if x183000 = 1 then (if (rd x183001 x3) < 0 then (some false) else (if (rd x183001 x3) > 256 then (some false) else (if x183000 = 2 then (if (rd x183001 x3) < (-1) then (some false) else (if (rd x183001 x3) > 4095 then (some false) else (spec_ReqOk.l0 k (wrap64 (x3 + 1)) x183000 x183001))) else (spec_ReqOk.l0 k (wrap64 (x3 + 1)) x183000 x183001)))) else (if x183000 = 2 then (if (rd x183001 x3) < (-1) then (some false) else (if (rd x183001 x3) > 4095 then (some false) else (spec_ReqOk.l0 k (wrap64 (x3 + 1)) x183000 x183001))) else (spec_ReqOk.l0 k (wrap64 (x3 + 1)) x183000 x183001))) else (none)) else (some true)
end
def spec_ReqOk.f (k : Nat) (a0_0 : Int) (l0_1 : List Int) : Option (Bool) := if (l0_1.length : Int) = 8 then (if a0_0 = 1 then (spec_ReqOk.j0 k false a0_0 l0_1) else (spec_ReqOk.j0 k (a0_0 != 2) a0_0 l0_1)) else (spec_ReqOk.j0 k true a0_0 l0_1)
theorem spec_ReqOk.mono_l : ∀ k, (∀ y0 y1 y2, LeO (spec_ReqOk.j0 k y0 y1 y2) (spec_ReqOk.j0 (k + 1) y0 y1 y2)) ∧ (∀ y0 y1 y2, LeO (spec_ReqOk.l0 k y0 y1 y2) (spec_ReqOk.l0 (k + 1) y0 y1 y2))
 | 0 => ⟨fun _ _ _ r h => by simp [spec_ReqOk.j0] at h, fun _ _ _ r h => by simp [spec_ReqOk.l0] at h⟩
 | k + 1 => by
  obtain ⟨ih0, ih1⟩ := spec_ReqOk.mono_l k
  refine ⟨?_, ?_⟩
  ·intro y0 y1 y2
   unfold spec_ReqOk.j0
   repeat' first
    | (with_reducible first | exact ih0 .. | exact ih1 .. | exact LeO.refl _ | exact LeO.none _ | refine LeO.ite ?_ ?_ | refine LeO.bind ?_ (fun _ => ?_))
    | exact LeO.none _ | refine LeO.ite ?_ ?_ | refine LeO.bind ?_ (fun _ => ?_)
  ·intro y0 y1 y2
   unfold spec_ReqOk.l0
   repeat' first
    | (with_reducible first | exact ih0 .. | exact ih1 .. | exact LeO.refl _ | exact LeO.none _ | refine LeO.ite ?_ ?_ | refine LeO.bind ?_ (fun _ => ?_))
    | exact LeO.none _ | refine LeO.ite ?_ ?_ | refine LeO.bind ?_ (fun _ => ?_)
theorem spec_ReqOk.mono : ∀ a0 a1 k, LeO (spec_ReqOk.f k a0 a1) (spec_ReqOk.f (k + 1) a0 a1) := by
 intro a0 a1 k
 obtain ⟨ih0, ih1⟩ := spec_ReqOk.mono_l k
 unfold spec_ReqOk.f
 repeat' first
  | (with_reducible first | exact ih0 .. | exact ih1 .. | exact LeO.refl _ | exact LeO.none _ | refine LeO.ite ?_ ?_ | refine LeO.bind ?_ (fun _ => ?_))
  | exact LeO.none _ | refine LeO.ite ?_ ?_ | refine LeO.bind ?_ (fun _ => ?_)
set_option maxHeartbeats 2000000 in
set_option maxRecDepth 100000 in
theorem spec_ReqOk.calls (k : Nat) (a0_0 : Int) (A0_1 : Option Addr) (c0_1 : Nat) (l0_1 : List Int) (r : Bool) (w : World) (hr0_1 : Kd.C (Kd.int .i64) w A0_1 l0_1.length l0_1) (hc0_1 : l0_1.length ≤ c0_1) (h : spec_ReqOk.f k a0_0 l0_1 = some r) :
  Calls Tryz.prog 46 #[.agg #[.int .i64 a0_0, .slice A0_1 l0_1.length c0_1]] w fun e w' => e = .returned (.bool r) ∧ Below w.heap.size w w' := by
 have hu77 := Tryz.underlying77
 have HR0_1 := Aside0.mk hr0_1
 have HC0_1 := Aside0.mk hc0_1
 clear hr0_1 hc0_1
 have HB := Aside0.mk (Below.refl w.heap.size w)
 unfold spec_ReqOk.f at h
 have H := h
 clear h
 have HC2 := Aside0.mk H
 clear H
 go_enter Tryz.func46, Tryz.ntmps46
 go_upto_region 1 with (first | ((with_reducible refine gd 1 ?_); refine bx 1 77 #[.int .i64 a0_0, .slice A0_1 l0_1.length c0_1] ?_; clear HB; intro gb182 w3 hg BK182 hb GE182 HB; clear hb hg))
 (try refine ap ?_)
 go_cut [18] (fun v18 wc => ∃ (kq : Nat) (x18_1 : Bool), v18 = .bool x18_1 ∧ Aside0 (spec_ReqOk.j0 kq x18_1 a0_0 l0_1 = some r) ∧ Aside0 (kq ≤ k) ∧ Aside0 (wc.heap[gb182]? = some (.cells #[.int .i64 a0_0, (.slice A0_1 l0_1.length c0_1)] 77 (0, 0))) ∧ Aside0 (Below w.heap.size w wc))
 case first =>
  have H := HC2.out
  clear HC2
  by_cases c4 : (l0_1.length : Int) = 8
  ·rw [if_pos c4] at H
   have c4b0 : ((l0_1.length : Int) == 8) = true := beq_iff_eq.mpr c4
   have c4b1 : ((l0_1.length : Int) != 8) = false := bne_eq_false_iff_eq.mpr c4
   clear c4
   (first | rw [c4b0] | (simp only [i64_w, i32_w]; rw [c4b0]) | (simp only [c4b2, Bool.not_true, Bool.not_false]) | (simp only [c4b1, Bool.not_true, Bool.not_false]) | skip)
   replace H := ieq H
   rcases H with ⟨c5b0, c5b1, H⟩ | ⟨c5, c5b0, c5b1, H⟩
   ·have H' := Aside0.mk H
    clear H
    obtain ⟨z6_0, z6_1⟩ := ca2 BK182
    obtain ⟨f6_0, f6_1⟩ := fa2 BK182
    go_wp2
    go_meet
    case rel => exact ⟨_, (false), ev, H', ⟨om⟩, ⟨bk BK182⟩, ⟨bw⟩⟩
   ·have H' := Aside0.mk H
    clear H
    obtain ⟨z7_0, z7_1⟩ := ca2 BK182
    obtain ⟨f7_0, f7_1⟩ := fa2 BK182
    go_wp2
    go_meet
    case rel => exact ⟨_, ((a0_0 != 2)), ev, H', ⟨om⟩, ⟨bk BK182⟩, ⟨bw⟩⟩
  ·rw [if_neg c4] at H
   have c4b0 : ((l0_1.length : Int) == 8) = false := beq_eq_false_iff_ne.mpr c4
   have c4b1 : ((l0_1.length : Int) != 8) = true := bne_iff_ne.mpr c4
   (first | rw [c4b0] | (simp only [i64_w, i32_w]; rw [c4b0]) | (simp only [c4b2, Bool.not_true, Bool.not_false]) | (simp only [c4b1, Bool.not_true, Bool.not_false]) | skip)
   have H' := Aside0.mk H
   clear H
   obtain ⟨z8_0, z8_1⟩ := ca2 BK182
   obtain ⟨f8_0, f8_1⟩ := fa2 BK182
   go_wp2
   go_meet
   case rel => exact ⟨_, (true), ev, H', ⟨om⟩, ⟨bk BK182⟩, ⟨bw⟩⟩
 case rest =>
  clear HC2
  obtain ⟨kq, x18_1, rfl, HA, HJ1, BK182, HB⟩ := hcut
  cases kq with
  | zero => exact absurd HA.out (by simp [spec_ReqOk.j0])
  | succ kj1 =>
   have H := HA.out
   clear HA
   simp only [spec_ReqOk.j0] at H
   replace H := ib H
   rcases H with ⟨rfl, H⟩ | ⟨rfl, H⟩
   ·obtain rfl := Option.some.inj H
    go_wp2
    go_ret
    exact ⟨rt, bw⟩
   ·have H' := Aside0.mk H
    clear H
    go_wp2
    go_loopg [3] kj1 (fun kq v3 w' => ∃ (x3_2 : Int), v3 = .int .i64 x3_2 ∧ Aside0 (spec_ReqOk.l0 kq x3_2 a0_0 l0_1 = some r) ∧ Aside0 (kq ≤ kj1) ∧ Aside0 (w'.heap[gb182]? = some (.cells #[.int .i64 a0_0, (.slice A0_1 l0_1.length c0_1)] 77 (0, 0))) ∧ Aside0 (Below w.heap.size w w'))
    case atStart => exact ⟨(0), ev, H', ⟨Nat.le_refl _⟩, ⟨bk BK182⟩, ⟨bw⟩⟩
    case round =>
     clear H'
     try clear c9
     obtain ⟨x3_2, rfl, HA, HK2, BK182, HB⟩ := hrel
     cases gk with
     | zero => exact absurd HA.out (by simp [spec_ReqOk.l0])
     | succ k2 =>
      have H := HA.out
      clear HA
      simp only [spec_ReqOk.l0] at H
      replace H := ilt H
      rcases H with ⟨c10b0, H⟩ | ⟨c10b0, H⟩
      ·by_cases c11 : 0 ≤ x3_2
       ·rw [if_pos c11] at H
        have c11b0 : decide (0 ≤ x3_2) = true := decide_eq_true c11
        clear c11
        replace H := ieq H
        rcases H with ⟨c12b0, c12b1, H⟩ | ⟨c12, c12b0, c12b1, H⟩
        ·replace H := ilt H
         rcases H with ⟨c13b0, H⟩ | ⟨c13b0, H⟩
         ·obtain rfl := Option.some.inj H
          obtain ⟨z14_0, z14_1⟩ := ca2 BK182
          obtain ⟨f14_0, f14_1⟩ := fa2 BK182
          have p183 : 0 ≤ (x3_2 : Int) := of_decide_eq_true as_
          have q183 : x3_2 < (l0_1.length : Int) := of_decide_eq_true as_
          obtain ⟨ad183, e183, hx183_0⟩ := Kd.at_int HR0_1.out x3_2 p183 q183
          cases e183
          replace hx183_0 := cl HB hx183_0
          replace p183 := eq_true p183
          replace q183 := eq_true q183
          go_wp2
          go_ret
          exact ⟨rt, bw⟩
         ·replace H := igt H
          rcases H with ⟨c15b0, H⟩ | ⟨c15b0, H⟩
          ·obtain rfl := Option.some.inj H
           obtain ⟨z16_0, z16_1⟩ := ca2 BK182
           obtain ⟨f16_0, f16_1⟩ := fa2 BK182
           have p183 : 0 ≤ (x3_2 : Int) := of_decide_eq_true as_
           have q183 : x3_2 < (l0_1.length : Int) := of_decide_eq_true as_
           obtain ⟨ad183, e183, hx183_0⟩ := Kd.at_int HR0_1.out x3_2 p183 q183
           cases e183
           replace hx183_0 := cl HB hx183_0
           replace p183 := eq_true p183
           replace q183 := eq_true q183
           go_wp2
           go_ret
           exact ⟨rt, bw⟩
          ·replace H := ieq H
           rcases H with ⟨c17b0, c17b1, H⟩ | ⟨c17, c17b0, c17b1, H⟩
           ·replace H := ilt H
            rcases H with ⟨c18b0, H⟩ | ⟨c18b0, H⟩
            ·obtain rfl := Option.some.inj H
             obtain ⟨z19_0, z19_1⟩ := ca2 BK182
             obtain ⟨f19_0, f19_1⟩ := fa2 BK182
             have p183 : 0 ≤ (x3_2 : Int) := of_decide_eq_true as_
             have q183 : x3_2 < (l0_1.length : Int) := of_decide_eq_true as_
             obtain ⟨ad183, e183, hx183_0⟩ := Kd.at_int HR0_1.out x3_2 p183 q183
             cases e183
             replace hx183_0 := cl HB hx183_0
             replace p183 := eq_true p183
             replace q183 := eq_true q183
             go_wp2
             go_ret
             exact ⟨rt, bw⟩
            ·replace H := igt H
             rcases H with ⟨c20b0, H⟩ | ⟨c20b0, H⟩
             ·obtain rfl := Option.some.inj H
              obtain ⟨z21_0, z21_1⟩ := ca2 BK182
              obtain ⟨f21_0, f21_1⟩ := fa2 BK182
              have p183 : 0 ≤ (x3_2 : Int) := of_decide_eq_true as_
              have q183 : x3_2 < (l0_1.length : Int) := of_decide_eq_true as_
              obtain ⟨ad183, e183, hx183_0⟩ := Kd.at_int HR0_1.out x3_2 p183 q183
              cases e183
              replace hx183_0 := cl HB hx183_0
              replace p183 := eq_true p183
              replace q183 := eq_true q183
              go_wp2
              go_ret
              exact ⟨rt, bw⟩
             ·have H' := Aside0.mk H
              clear H
              obtain ⟨z22_0, z22_1⟩ := ca2 BK182
              obtain ⟨f22_0, f22_1⟩ := fa2 BK182
              have p183 : 0 ≤ (x3_2 : Int) := of_decide_eq_true as_
              have q183 : x3_2 < (l0_1.length : Int) := of_decide_eq_true as_
              obtain ⟨ad183, e183, hx183_0⟩ := Kd.at_int HR0_1.out x3_2 p183 q183
              cases e183
              replace hx183_0 := cl HB hx183_0
              replace p183 := eq_true p183
              replace q183 := eq_true q183
              go_wp2
              go_roundg k2
              case measure => have := HJ1.out; have := HK2.out; omega
              case rel => exact ⟨(wrap64 (x3_2 + 1)), ev, H', ⟨by have := HJ1.out; have := HK2.out; omega⟩, ⟨bk BK182⟩, ⟨bw⟩⟩
           ·have H' := Aside0.mk H
            clear H
            obtain ⟨z23_0, z23_1⟩ := ca2 BK182
            obtain ⟨f23_0, f23_1⟩ := fa2 BK182
            have p183 : 0 ≤ (x3_2 : Int) := of_decide_eq_true as_
            have q183 : x3_2 < (l0_1.length : Int) := of_decide_eq_true as_
            obtain ⟨ad183, e183, hx183_0⟩ := Kd.at_int HR0_1.out x3_2 p183 q183
            cases e183
            replace hx183_0 := cl HB hx183_0
            replace p183 := eq_true p183
            replace q183 := eq_true q183
            go_wp2
            go_roundg k2
            case measure => have := HJ1.out; have := HK2.out; omega
            case rel => exact ⟨(wrap64 (x3_2 + 1)), ev, H', ⟨by have := HJ1.out; have := HK2.out; omega⟩, ⟨bk BK182⟩, ⟨bw⟩⟩
        ·replace H := ieq H
         rcases H with ⟨c24b0, c24b1, H⟩ | ⟨c24, c24b0, c24b1, H⟩
         ·replace H := ilt H
          rcases H with ⟨c25b0, H⟩ | ⟨c25b0, H⟩
          ·obtain rfl := Option.some.inj H
           obtain ⟨z26_0, z26_1⟩ := ca2 BK182
           obtain ⟨f26_0, f26_1⟩ := fa2 BK182
           have p183 : 0 ≤ (x3_2 : Int) := of_decide_eq_true as_
           have q183 : x3_2 < (l0_1.length : Int) := of_decide_eq_true as_
           obtain ⟨ad183, e183, hx183_0⟩ := Kd.at_int HR0_1.out x3_2 p183 q183
           cases e183
           replace hx183_0 := cl HB hx183_0
           replace p183 := eq_true p183
           replace q183 := eq_true q183
           go_wp2
           go_ret
           exact ⟨rt, bw⟩
          ·replace H := igt H
           rcases H with ⟨c27b0, H⟩ | ⟨c27b0, H⟩
           ·obtain rfl := Option.some.inj H
            obtain ⟨z28_0, z28_1⟩ := ca2 BK182
            obtain ⟨f28_0, f28_1⟩ := fa2 BK182
            have p183 : 0 ≤ (x3_2 : Int) := of_decide_eq_true as_
            have q183 : x3_2 < (l0_1.length : Int) := of_decide_eq_true as_
            obtain ⟨ad183, e183, hx183_0⟩ := Kd.at_int HR0_1.out x3_2 p183 q183
            cases e183
            replace hx183_0 := cl HB hx183_0
            replace p183 := eq_true p183
            replace q183 := eq_true q183
            go_wp2
            go_ret
            exact ⟨rt, bw⟩
           ·have H' := Aside0.mk H
            clear H
            obtain ⟨z29_0, z29_1⟩ := ca2 BK182
            obtain ⟨f29_0, f29_1⟩ := fa2 BK182
            have p183 : 0 ≤ (x3_2 : Int) := of_decide_eq_true as_
            have q183 : x3_2 < (l0_1.length : Int) := of_decide_eq_true as_
            obtain ⟨ad183, e183, hx183_0⟩ := Kd.at_int HR0_1.out x3_2 p183 q183
            cases e183
            replace hx183_0 := cl HB hx183_0
            replace p183 := eq_true p183
            replace q183 := eq_true q183
            go_wp2
            go_roundg k2
            case measure => have := HJ1.out; have := HK2.out; omega
            case rel => exact ⟨(wrap64 (x3_2 + 1)), ev, H', ⟨by have := HJ1.out; have := HK2.out; omega⟩, ⟨bk BK182⟩, ⟨bw⟩⟩
         ·have H' := Aside0.mk H
          clear H
          obtain ⟨z30_0, z30_1⟩ := ca2 BK182
          obtain ⟨f30_0, f30_1⟩ := fa2 BK182
          have p183 : 0 ≤ (x3_2 : Int) := of_decide_eq_true as_
          have q183 : x3_2 < (l0_1.length : Int) := of_decide_eq_true as_
          obtain ⟨ad183, e183, hx183_0⟩ := Kd.at_int HR0_1.out x3_2 p183 q183
          cases e183
          replace hx183_0 := cl HB hx183_0
          replace p183 := eq_true p183
          replace q183 := eq_true q183
          go_wp2
          go_roundg k2
          case measure => have := HJ1.out; have := HK2.out; omega
          case rel => exact ⟨(wrap64 (x3_2 + 1)), ev, H', ⟨by have := HJ1.out; have := HK2.out; omega⟩, ⟨bk BK182⟩, ⟨bw⟩⟩
       ·rw [if_neg c11] at H
        exact absurd H (by simp)
      ·obtain rfl := Option.some.inj H
       obtain ⟨z31_0, z31_1⟩ := ca2 BK182
       obtain ⟨f31_0, f31_1⟩ := fa2 BK182
       go_wp2
       go_ret
       exact ⟨rt, bw⟩

end Go.Proofs.YtfhcnnkeokjfpaaGreatDoor.PO1
namespace Go.Proofs.YtfhcnnkeokjfpaaGreatDoor.PO1
open Go.RowKit Go.Proofs.YtfhcnnkeokjfpaaGreatDoorW.PrintWords Go.Proofs.YtfhcnnkeokjfpaaGreatDoorW.PrintLast Go.Proofs.YtfhcnnkeokjfpaaGreatDoorW.PrintMore Go.Proofs.YtfhcnnkeokjfpaaGreatDoor.T
attribute [local go_sem] max2_int min2_int max_two min_two max_three min_three max_four min_four   -- for this text's walks alone
set_option linter.unusedVariables false
set_option linter.unusedSimpArgs false

/-! ### spec_l07Asks: function 47 -/
def spec_l07Asks.l0 : Nat → Int → List Int → List Int → Int → Option (List Int)
 | 0, _, _, _, _ => none
 | k + 1, x0, x1, x5, x6 => if x6 < (x1.length : Int) then (if x0 = 1 then (if 0 ≤ x6 then (if (rd x1 x6) > 0 then (if x5.length < 17592186044416 then (spec_l07Asks.l0 k x0 x1 (x5 ++ [x6]) (wrap64 (x6 + 1))) else (none)) else (if x0 = 2 then (if (rd x1 x6) ≥ 0 then (if x5.length < 17592186044416 then (spec_l07Asks.l0 k x0 x1 (x5 ++ [x6]) (wrap64 (x6 + 1))) else (none)) else (spec_l07Asks.l0 k x0 x1 x5 (wrap64 (x6 + 1)))) else (spec_l07Asks.l0 k x0 x1 x5 (wrap64 (x6 + 1))))) else (none)) else (if x0 = 2 then (if 0 ≤ x6 then (if (rd x1 x6) ≥ 0 then (if x5.length < 17592186044416 then (spec_l07Asks.l0 k x0 x1 (x5 ++ [x6]) (wrap64 (x6 + 1))) else (none)) else (spec_l07Asks.l0 k x0 x1 x5 (wrap64 (x6 + 1)))) else (none)) else (spec_l07Asks.l0 k x0 x1 x5 (wrap64 (x6 + 1))))) else (some x5)
def spec_l07Asks.f (k : Nat) (a0 : Int) (l1 : List Int) : Option (List Int) := spec_l07Asks.l0 k a0 l1 (([] : List Int)) 0
theorem spec_l07Asks.mono_l : ∀ k, (∀ y0 y1 y2 y3, LeO (spec_l07Asks.l0 k y0 y1 y2 y3) (spec_l07Asks.l0 (k + 1) y0 y1 y2 y3))
 | 0 => fun _ _ _ _ r h => by simp [spec_l07Asks.l0] at h
 | k + 1 => by
  have ih0 := spec_l07Asks.mono_l k
  ·intro y0 y1 y2 y3
   unfold spec_l07Asks.l0
   repeat' first
    | (with_reducible first | exact ih0 .. | exact LeO.refl _ | exact LeO.none _ | refine LeO.ite ?_ ?_ | refine LeO.bind ?_ (fun _ => ?_))
    | exact LeO.none _ | refine LeO.ite ?_ ?_ | refine LeO.bind ?_ (fun _ => ?_)
theorem spec_l07Asks.mono : ∀ a0 a1 k, LeO (spec_l07Asks.f k a0 a1) (spec_l07Asks.f (k + 1) a0 a1) := by
 intro a0 a1 k
 have ih0 := spec_l07Asks.mono_l k
 unfold spec_l07Asks.f
 repeat' first
  | (with_reducible first | exact ih0 .. | exact LeO.refl _ | exact LeO.none _ | refine LeO.ite ?_ ?_ | refine LeO.bind ?_ (fun _ => ?_))
  | exact LeO.none _ | refine LeO.ite ?_ ?_ | refine LeO.bind ?_ (fun _ => ?_)
set_option maxHeartbeats 2000000 in
set_option maxRecDepth 100000 in
theorem spec_l07Asks.calls (k : Nat) (a0 : Int) (A1 : Option Addr) (c1 : Nat) (l1 : List Int) (r : List Int) (w : World) (hr1 : Kd.C (Kd.int .i64) w A1 l1.length l1) (hc1 : l1.length ≤ c1) (h : spec_l07Asks.f k a0 l1 = some r) :
  Calls Tryz.prog 47 #[.int .i64 a0, .slice A1 l1.length c1] w fun e w' => ∃ v0_ : Value, e = .returned (v0_) ∧ Kd.R (Kd.int .i64) 3 w' w.heap.size (fun _ => True) v0_ r ∧ Below w.heap.size w w' := by
 have HR1 := Aside0.mk hr1
 have HC1 := Aside0.mk hc1
 clear hr1 hc1
 have HB := Aside0.mk (Below.refl w.heap.size w)
 unfold spec_l07Asks.f at h
 have H := h
 clear h
 obtain ⟨y184, hy184⟩ : ∃ y_ : List Int, y_ = (([] : List Int)) := ⟨_, rfl⟩
 rw [← hy184] at H
 try with_reducible replace H := bs H
 have Ny184 := Aside0.mk hy184
 clear hy184
 have H' := Aside0.mk H
 clear H
 go_enter Tryz.func47, Tryz.ntmps47
 go_wp2_with (first | ((with_reducible refine gate_dst (N := 7) rfl ?_); refine Kd.R_lit (Kd.int .i64) _ 3 ?hg (N := 7) ?hd (xs := ([] : List Int)) (inner := []) (ok := fun _ => True) (okp := fun _ => True) ?hr ?hp (fun _ hk => hk) trivial (Below.refl _ _) (Nat.le_refl _) (by simp) ?_; (case hd => rfl); (case hg => rfl); (case hr => first | (go_simp; done) | (go_simp; rfl)); (case hp => exact (Reps.none _ _)); intro v185 w3 ho4 hb hg_ hnew_; clear hg_ hnew_; (first | rw [← Ny184.out] at ho4 | (simp only [Int.reduceToNat] at ho4; rw [← Ny184.out] at ho4)); have HO186 := Aside0.mk (Kd.R_lower ho4 (below_size bw)); replace HB := hs hb; clear hb ho4))
 go_loopg [5, 6] k (fun kq v5 v6 w' => ∃ (x5_1 : List Int) (x6_1 : Int), v6 = .int .i64 x6_1 ∧ Aside0 (spec_l07Asks.l0 kq a0 l1 x5_1 x6_1 = some r) ∧ Aside0 (kq ≤ k) ∧ Aside0 (Kd.R (Kd.int .i64) 3 w' w.heap.size (fun _ => True) v5 x5_1) ∧ Aside0 (Below w.heap.size w w'))
 case atStart => exact ⟨(y184), (0), ev, H', ⟨Nat.le_refl _⟩, ⟨ro HO186⟩, ⟨bw⟩⟩
 case round =>
  clear H'
  try clear c1
  obtain ⟨x5_1, x6_1, rfl, HA, HK1, HO_5, HB⟩ := hrel
  cases gk with
  | zero => exact absurd HA.out (by simp [spec_l07Asks.l0])
  | succ k1 =>
   have H := HA.out
   clear HA
   simp only [spec_l07Asks.l0] at H
   replace H := ilt H
   rcases H with ⟨c5b0, H⟩ | ⟨c5b0, H⟩
   ·replace H := ieq H
    rcases H with ⟨c6b0, c6b1, H⟩ | ⟨c6, c6b0, c6b1, H⟩
    ·by_cases c7 : 0 ≤ x6_1
     ·rw [if_pos c7] at H
      have c7b0 : decide (0 ≤ x6_1) = true := decide_eq_true c7
      clear c7
      replace H := igt H
      rcases H with ⟨c8b0, H⟩ | ⟨c8b0, H⟩
      ·by_cases c9 : x5_1.length < 17592186044416
       ·rw [if_pos c9] at H
        have LMc9 := Aside0.mk c9
        clear c9
        obtain ⟨y188, hy188⟩ : ∃ y_ : List Int, y_ = (x5_1 ++ [x6_1]) := ⟨_, rfl⟩
        rw [← hy188] at H
        try with_reducible replace H := bs H
        have Ny188 := Aside0.mk hy188
        clear hy188
        have H' := Aside0.mk H
        clear H
        have p187 : 0 ≤ (x6_1 : Int) := of_decide_eq_true as_
        have q187 : x6_1 < (l1.length : Int) := of_decide_eq_true as_
        obtain ⟨ad187, e187, hx187_0⟩ := Kd.at_int HR1.out x6_1 p187 q187
        cases e187
        replace hx187_0 := cl HB hx187_0
        replace p187 := eq_true p187
        replace q187 := eq_true q187
        go_wp2_with (first | ((with_reducible refine gate_builtin (b := .append) (xs := #[.tmp 34, .tmp 36]) rfl ?_); at_builtin; refine Kd.R_append (Kd.int .i64) (w0 := w) w.heap.size rfl (.tmp 34) (.tmp 36) 29 3 (.int .i64 0) 8 rfl Tryz.underlying29 info3 rfl (by decide) (by omega) u5 x5_1 x6_1 [.int .i64 x6_1] (fun _ => True) (fun _ => False) rfl rfl ?aP (fun _ hk => hk.elim) ?aF ?aO ?aB ?aS ?aL ?_; (case aP => exact rfl); (case aB => exact bw); (case aF => exact (fun _ _ => trivial)); (case aO => exact (ro HO_5)); (case aS => exact (below_size bw)); (case aL => have := LMc9.out; omega); intro v189 w10 ho hb hg hat; rw [← Ny188.out] at ho; have HO190 := Aside0.mk (ho); replace HB := Aside0.mk (hb); clear HO_5; clear ho hb hg hat))
        go_roundg k1
        case measure => have := HK1.out; omega
        case rel => exact ⟨(y188), (wrap64 (x6_1 + 1)), ev, H', ⟨oa HK1⟩, ⟨ro HO190⟩, ⟨bw⟩⟩
       ·rw [if_neg c9] at H
        exact absurd H (by simp)
      ·replace H := ieq H
       rcases H with ⟨c11b0, c11b1, H⟩ | ⟨c11, c11b0, c11b1, H⟩
       ·replace H := ige H
        rcases H with ⟨c12b0, H⟩ | ⟨c12b0, H⟩
        ·by_cases c13 : x5_1.length < 17592186044416
         ·rw [if_pos c13] at H
          have LMc13 := Aside0.mk c13
          clear c13
          obtain ⟨y192, hy192⟩ : ∃ y_ : List Int, y_ = (x5_1 ++ [x6_1]) := ⟨_, rfl⟩
          rw [← hy192] at H
          try with_reducible replace H := bs H
          have Ny192 := Aside0.mk hy192
          clear hy192
          have H' := Aside0.mk H
          clear H
          have p187 : 0 ≤ (x6_1 : Int) := of_decide_eq_true as_
          have q187 : x6_1 < (l1.length : Int) := of_decide_eq_true as_
          obtain ⟨ad187, e187, hx187_0⟩ := Kd.at_int HR1.out x6_1 p187 q187
          cases e187
          replace hx187_0 := cl HB hx187_0
          replace p187 := eq_true p187
          replace q187 := eq_true q187
          have p191 : 0 ≤ (x6_1 : Int) := of_decide_eq_true as_
          have q191 : x6_1 < (l1.length : Int) := of_decide_eq_true as_
          obtain ⟨ad191, e191, hx191_0⟩ := Kd.at_int HR1.out x6_1 p191 q191
          obtain rfl : ad187 = ad191 := (by injection e191)
          replace hx191_0 := cl HB hx191_0
          replace p191 := eq_true p191
          replace q191 := eq_true q191
          go_wp2_with (first | ((with_reducible refine gate_builtin (b := .append) (xs := #[.tmp 34, .tmp 36]) rfl ?_); at_builtin; refine Kd.R_append (Kd.int .i64) (w0 := w) w.heap.size rfl (.tmp 34) (.tmp 36) 29 3 (.int .i64 0) 8 rfl Tryz.underlying29 info3 rfl (by decide) (by omega) u5 x5_1 x6_1 [.int .i64 x6_1] (fun _ => True) (fun _ => False) rfl rfl ?aP (fun _ hk => hk.elim) ?aF ?aO ?aB ?aS ?aL ?_; (case aP => exact rfl); (case aB => exact bw); (case aF => exact (fun _ _ => trivial)); (case aO => exact (ro HO_5)); (case aS => exact (below_size bw)); (case aL => have := LMc13.out; omega); intro v193 w14 ho hb hg hat; rw [← Ny192.out] at ho; have HO194 := Aside0.mk (ho); replace HB := Aside0.mk (hb); clear HO_5; clear ho hb hg hat))
          go_roundg k1
          case measure => have := HK1.out; omega
          case rel => exact ⟨(y192), (wrap64 (x6_1 + 1)), ev, H', ⟨oa HK1⟩, ⟨ro HO194⟩, ⟨bw⟩⟩
         ·rw [if_neg c13] at H
          exact absurd H (by simp)
        ·have H' := Aside0.mk H
         clear H
         have p187 : 0 ≤ (x6_1 : Int) := of_decide_eq_true as_
         have q187 : x6_1 < (l1.length : Int) := of_decide_eq_true as_
         obtain ⟨ad187, e187, hx187_0⟩ := Kd.at_int HR1.out x6_1 p187 q187
         cases e187
         replace hx187_0 := cl HB hx187_0
         replace p187 := eq_true p187
         replace q187 := eq_true q187
         have p191 : 0 ≤ (x6_1 : Int) := of_decide_eq_true as_
         have q191 : x6_1 < (l1.length : Int) := of_decide_eq_true as_
         obtain ⟨ad191, e191, hx191_0⟩ := Kd.at_int HR1.out x6_1 p191 q191
         obtain rfl : ad187 = ad191 := (by injection e191)
         replace hx191_0 := cl HB hx191_0
         replace p191 := eq_true p191
         replace q191 := eq_true q191
         go_wp2
         go_roundg k1
         case measure => have := HK1.out; omega
         case rel => exact ⟨(x5_1), (wrap64 (x6_1 + 1)), ev, H', ⟨oa HK1⟩, ⟨ro HO_5⟩, ⟨bw⟩⟩
       ·have H' := Aside0.mk H
        clear H
        have p187 : 0 ≤ (x6_1 : Int) := of_decide_eq_true as_
        have q187 : x6_1 < (l1.length : Int) := of_decide_eq_true as_
        obtain ⟨ad187, e187, hx187_0⟩ := Kd.at_int HR1.out x6_1 p187 q187
        cases e187
        replace hx187_0 := cl HB hx187_0
        replace p187 := eq_true p187
        replace q187 := eq_true q187
        go_wp2
        go_roundg k1
        case measure => have := HK1.out; omega
        case rel => exact ⟨(x5_1), (wrap64 (x6_1 + 1)), ev, H', ⟨oa HK1⟩, ⟨ro HO_5⟩, ⟨bw⟩⟩
     ·rw [if_neg c7] at H
      exact absurd H (by simp)
    ·replace H := ieq H
     rcases H with ⟨c15b0, c15b1, H⟩ | ⟨c15, c15b0, c15b1, H⟩
     ·by_cases c16 : 0 ≤ x6_1
      ·rw [if_pos c16] at H
       have c16b0 : decide (0 ≤ x6_1) = true := decide_eq_true c16
       clear c16
       replace H := ige H
       rcases H with ⟨c17b0, H⟩ | ⟨c17b0, H⟩
       ·by_cases c18 : x5_1.length < 17592186044416
        ·rw [if_pos c18] at H
         have LMc18 := Aside0.mk c18
         clear c18
         obtain ⟨y196, hy196⟩ : ∃ y_ : List Int, y_ = (x5_1 ++ [x6_1]) := ⟨_, rfl⟩
         rw [← hy196] at H
         try with_reducible replace H := bs H
         have Ny196 := Aside0.mk hy196
         clear hy196
         have H' := Aside0.mk H
         clear H
         have p195 : 0 ≤ (x6_1 : Int) := of_decide_eq_true as_
         have q195 : x6_1 < (l1.length : Int) := of_decide_eq_true as_
         obtain ⟨ad195, e195, hx195_0⟩ := Kd.at_int HR1.out x6_1 p195 q195
         cases e195
         replace hx195_0 := cl HB hx195_0
         replace p195 := eq_true p195
         replace q195 := eq_true q195
         go_wp2_with (first | ((with_reducible refine gate_builtin (b := .append) (xs := #[.tmp 34, .tmp 36]) rfl ?_); at_builtin; refine Kd.R_append (Kd.int .i64) (w0 := w) w.heap.size rfl (.tmp 34) (.tmp 36) 29 3 (.int .i64 0) 8 rfl Tryz.underlying29 info3 rfl (by decide) (by omega) u5 x5_1 x6_1 [.int .i64 x6_1] (fun _ => True) (fun _ => False) rfl rfl ?aP (fun _ hk => hk.elim) ?aF ?aO ?aB ?aS ?aL ?_; (case aP => exact rfl); (case aB => exact bw); (case aF => exact (fun _ _ => trivial)); (case aO => exact (ro HO_5)); (case aS => exact (below_size bw)); (case aL => have := LMc18.out; omega); intro v197 w19 ho hb hg hat; rw [← Ny196.out] at ho; have HO198 := Aside0.mk (ho); replace HB := Aside0.mk (hb); clear HO_5; clear ho hb hg hat))
         go_roundg k1
         case measure => have := HK1.out; omega
         case rel => exact ⟨(y196), (wrap64 (x6_1 + 1)), ev, H', ⟨oa HK1⟩, ⟨ro HO198⟩, ⟨bw⟩⟩
        ·rw [if_neg c18] at H
         exact absurd H (by simp)
       ·have H' := Aside0.mk H
        clear H
        have p195 : 0 ≤ (x6_1 : Int) := of_decide_eq_true as_
        have q195 : x6_1 < (l1.length : Int) := of_decide_eq_true as_
        obtain ⟨ad195, e195, hx195_0⟩ := Kd.at_int HR1.out x6_1 p195 q195
        cases e195
        replace hx195_0 := cl HB hx195_0
        replace p195 := eq_true p195
        replace q195 := eq_true q195
        go_wp2
        go_roundg k1
        case measure => have := HK1.out; omega
        case rel => exact ⟨(x5_1), (wrap64 (x6_1 + 1)), ev, H', ⟨oa HK1⟩, ⟨ro HO_5⟩, ⟨bw⟩⟩
      ·rw [if_neg c16] at H
       exact absurd H (by simp)
     ·have H' := Aside0.mk H
      clear H
      go_wp2
      go_roundg k1
      case measure => have := HK1.out; omega
      case rel => exact ⟨(x5_1), (wrap64 (x6_1 + 1)), ev, H', ⟨oa HK1⟩, ⟨ro HO_5⟩, ⟨bw⟩⟩
   ·obtain rfl := Option.some.inj H
    go_wp2
    go_ret
    exact ⟨_, rt, ro HO_5, bw⟩

/-! ### spec_l07LargeOk: function 49 -/
mutual
def spec_l07LargeOk.j0 : Nat → Int → Bool → Int → List Int → List Int → Int → Int → Int → Int → Int → Option (Bool)
 | 0, _, _, _, _, _, _, _, _, _, _ => none
 | k + 1, x1, x28, x200000, x200001, x200002, x200003, x200004, x200005, x200006, x200007 => if x28 = true then (some false) else (if x200004 = 0 then (spec_l07LargeOk.j1 k x1 x200004 (x200004 == 0) x200000 x200001 x200002 x200003 x200004 x200005 x200006 x200007) else (spec_l07LargeOk.j1 k x1 x200004 (x200004 == 1) x200000 x200001 x200002 x200003 x200004 x200005 x200006 x200007))
def spec_l07LargeOk.j1 : Nat → Int → Int → Bool → Int → List Int → List Int → Int → Int → Int → Int → Int → Option (Bool)
 | 0, _, _, _, _, _, _, _, _, _, _, _ => none
 | k + 1, x1, x30, x31, x200000, x200001, x200002, x200003, x200004, x200005, x200006, x200007 => if x31 = true then (some (decide (x200006 < x1))) else (if x30 = 2 then (some (decide (x200006 > 0))) else (if x30 = 3 then (some (x200006 == x1)) else (some false)))
end
def spec_l07LargeOk.f (k : Nat) (a0_0 : Int) (l0_1 : List Int) (l0_2 : List Int) (a0_3 : Int) (a0_4 : Int) (a0_5 : Int) (a0_6 : Int) (a0_7 : Int) (a1 : Int) (a2 : Int) : Option (Bool) := if a0_6 > a1 then (spec_l07LargeOk.j0 k a1 true a0_0 l0_1 l0_2 a0_3 a0_4 a0_5 a0_6 a0_7) else (if a0_6 > 0 then (spec_l07LargeOk.j0 k a1 (decide ((wrap64 (a0_5 + a1)) > a2)) a0_0 l0_1 l0_2 a0_3 a0_4 a0_5 a0_6 a0_7) else (if a0_4 = 1 then (spec_l07LargeOk.j0 k a1 (decide ((wrap64 (a0_5 + a1)) > a2)) a0_0 l0_1 l0_2 a0_3 a0_4 a0_5 a0_6 a0_7) else (spec_l07LargeOk.j0 k a1 false a0_0 l0_1 l0_2 a0_3 a0_4 a0_5 a0_6 a0_7)))
theorem spec_l07LargeOk.mono_l : ∀ k, (∀ y0 y1 y2 y3 y4 y5 y6 y7 y8 y9, LeO (spec_l07LargeOk.j0 k y0 y1 y2 y3 y4 y5 y6 y7 y8 y9) (spec_l07LargeOk.j0 (k + 1) y0 y1 y2 y3 y4 y5 y6 y7 y8 y9)) ∧ (∀ y0 y1 y2 y3 y4 y5 y6 y7 y8 y9 y10, LeO (spec_l07LargeOk.j1 k y0 y1 y2 y3 y4 y5 y6 y7 y8 y9 y10) (spec_l07LargeOk.j1 (k + 1) y0 y1 y2 y3 y4 y5 y6 y7 y8 y9 y10))
 | 0 => ⟨fun _ _ _ _ _ _ _ _ _ _ r h => by simp [spec_l07LargeOk.j0] at h, fun _ _ _ _ _ _ _ _ _ _ _ r h => by simp [spec_l07LargeOk.j1] at h⟩
 | k + 1 => by
  obtain ⟨ih0, ih1⟩ := spec_l07LargeOk.mono_l k
  refine ⟨?_, ?_⟩
  ·intro y0 y1 y2 y3 y4 y5 y6 y7 y8 y9
   unfold spec_l07LargeOk.j0
   repeat' first
    | (with_reducible first | exact ih0 .. | exact ih1 .. | exact LeO.refl _ | exact LeO.none _ | refine LeO.ite ?_ ?_ | refine LeO.bind ?_ (fun _ => ?_))
    | exact LeO.none _ | refine LeO.ite ?_ ?_ | refine LeO.bind ?_ (fun _ => ?_)
  ·intro y0 y1 y2 y3 y4 y5 y6 y7 y8 y9 y10
   unfold spec_l07LargeOk.j1
   repeat' first
    | (with_reducible first | exact ih0 .. | exact ih1 .. | exact LeO.refl _ | exact LeO.none _ | refine LeO.ite ?_ ?_ | refine LeO.bind ?_ (fun _ => ?_))
    | exact LeO.none _ | refine LeO.ite ?_ ?_ | refine LeO.bind ?_ (fun _ => ?_)
theorem spec_l07LargeOk.mono : ∀ a0 a1 a2 a3 a4 a5 a6 a7 a8 a9 k, LeO (spec_l07LargeOk.f k a0 a1 a2 a3 a4 a5 a6 a7 a8 a9) (spec_l07LargeOk.f (k + 1) a0 a1 a2 a3 a4 a5 a6 a7 a8 a9) := by
 intro a0 a1 a2 a3 a4 a5 a6 a7 a8 a9 k
 obtain ⟨ih0, ih1⟩ := spec_l07LargeOk.mono_l k
 unfold spec_l07LargeOk.f
 repeat' first
  | (with_reducible first | exact ih0 .. | exact ih1 .. | exact LeO.refl _ | exact LeO.none _ | refine LeO.ite ?_ ?_ | refine LeO.bind ?_ (fun _ => ?_))
  | exact LeO.none _ | refine LeO.ite ?_ ?_ | refine LeO.bind ?_ (fun _ => ?_)
set_option maxHeartbeats 2000000 in
set_option maxRecDepth 100000 in
theorem spec_l07LargeOk.calls (k : Nat) (a0_0 : Int) (A0_1 : Option Addr) (c0_1 : Nat) (l0_1 : List Int) (A0_2 : Option Addr) (c0_2 : Nat) (l0_2 : List Int) (a0_3 : Int) (a0_4 : Int) (a0_5 : Int) (a0_6 : Int) (a0_7 : Int) (a1 : Int) (a2 : Int) (r : Bool) (w : World) (hr0_1 : Kd.C (Kd.int .i64) w A0_1 l0_1.length l0_1) (hc0_1 : l0_1.length ≤ c0_1) (hr0_2 : Kd.C (Kd.int .i64) w A0_2 l0_2.length l0_2) (hc0_2 : l0_2.length ≤ c0_2) (h : spec_l07LargeOk.f k a0_0 l0_1 l0_2 a0_3 a0_4 a0_5 a0_6 a0_7 a1 a2 = some r) :
  Calls Tryz.prog 49 #[.agg #[.int .i64 a0_0, .slice A0_1 l0_1.length c0_1, .slice A0_2 l0_2.length c0_2, .int .u32 a0_3, .int .i64 a0_4, .int .i64 a0_5, .int .i64 a0_6, .int .u32 a0_7], .int .i64 a1, .int .i64 a2] w fun e w' => e = .returned (.bool r) ∧ Below w.heap.size w w' := by
 have hu59 := Tryz.underlying59
 have HR0_1 := Aside0.mk hr0_1
 have HC0_1 := Aside0.mk hc0_1
 clear hr0_1 hc0_1
 have HR0_2 := Aside0.mk hr0_2
 have HC0_2 := Aside0.mk hc0_2
 clear hr0_2 hc0_2
 have HB := Aside0.mk (Below.refl w.heap.size w)
 unfold spec_l07LargeOk.f at h
 have H := h
 clear h
 have HC4 := Aside0.mk H
 clear H
 go_enter Tryz.func49, Tryz.ntmps49
 go_upto_region 1 with (first | ((with_reducible refine gd 3 ?_); refine bx 3 59 #[.int .i64 a0_0, .slice A0_1 l0_1.length c0_1, .slice A0_2 l0_2.length c0_2, .int .u32 a0_3, .int .i64 a0_4, .int .i64 a0_5, .int .i64 a0_6, .int .u32 a0_7] ?_; clear HB; intro gb199 w5 hg BK199 hb GE199 HB; clear hb hg))
 (try refine ap ?_)
 go_cut [28] (fun v28 wc => ∃ (kq : Nat) (x28_3 : Bool), v28 = .bool x28_3 ∧ Aside0 (spec_l07LargeOk.j0 kq a1 x28_3 a0_0 l0_1 l0_2 a0_3 a0_4 a0_5 a0_6 a0_7 = some r) ∧ Aside0 (kq ≤ k) ∧ Aside0 (wc.heap[gb199]? = some (.cells #[.int .i64 a0_0, (.slice A0_1 l0_1.length c0_1), (.slice A0_2 l0_2.length c0_2), .int .u32 a0_3, .int .i64 a0_4, .int .i64 a0_5, .int .i64 a0_6, .int .u32 a0_7] 59 (0, 0))) ∧ Aside0 (Below w.heap.size w wc))
 case first =>
  have H := HC4.out
  clear HC4
  replace H := igt H
  rcases H with ⟨c6b0, H⟩ | ⟨c6b0, H⟩
  ·(first | rw [c6b0] | (simp only [i64_w, i32_w]; rw [c6b0]) | (simp only [c6b2, Bool.not_true, Bool.not_false]) | (simp only [c6b1, Bool.not_true, Bool.not_false]) | skip)
   have H' := Aside0.mk H
   clear H
   obtain ⟨z7_0, z7_1, z7_2, z7_3, z7_4, z7_5, z7_6, z7_7⟩ := ca8 BK199
   obtain ⟨f7_0, f7_1, f7_2, f7_3, f7_4, f7_5, f7_6, f7_7⟩ := fa8 BK199
   go_wp2
   go_meet
   case rel => exact ⟨_, (true), ev, H', ⟨om⟩, ⟨bk BK199⟩, ⟨bw⟩⟩
  ·(first | rw [c6b0] | (simp only [i64_w, i32_w]; rw [c6b0]) | (simp only [c6b2, Bool.not_true, Bool.not_false]) | (simp only [c6b1, Bool.not_true, Bool.not_false]) | skip)
   replace H := igt H
   rcases H with ⟨c8b0, H⟩ | ⟨c8b0, H⟩
   ·have H' := Aside0.mk H
    clear H
    obtain ⟨z9_0, z9_1, z9_2, z9_3, z9_4, z9_5, z9_6, z9_7⟩ := ca8 BK199
    obtain ⟨f9_0, f9_1, f9_2, f9_3, f9_4, f9_5, f9_6, f9_7⟩ := fa8 BK199
    go_wp2
    go_meet
    case rel => exact ⟨_, (decide ((wrap64 (a0_5 + a1)) > a2)), ev, H', ⟨om⟩, ⟨bk BK199⟩, ⟨bw⟩⟩
   ·replace H := ieq H
    rcases H with ⟨c10b0, c10b1, H⟩ | ⟨c10, c10b0, c10b1, H⟩
    ·have H' := Aside0.mk H
     clear H
     obtain ⟨z11_0, z11_1, z11_2, z11_3, z11_4, z11_5, z11_6, z11_7⟩ := ca8 BK199
     obtain ⟨f11_0, f11_1, f11_2, f11_3, f11_4, f11_5, f11_6, f11_7⟩ := fa8 BK199
     go_wp2
     go_meet
     case rel => exact ⟨_, (decide ((wrap64 (a0_5 + a1)) > a2)), ev, H', ⟨om⟩, ⟨bk BK199⟩, ⟨bw⟩⟩
    ·have H' := Aside0.mk H
     clear H
     obtain ⟨z12_0, z12_1, z12_2, z12_3, z12_4, z12_5, z12_6, z12_7⟩ := ca8 BK199
     obtain ⟨f12_0, f12_1, f12_2, f12_3, f12_4, f12_5, f12_6, f12_7⟩ := fa8 BK199
     go_wp2
     go_meet
     case rel => exact ⟨_, (false), ev, H', ⟨om⟩, ⟨bk BK199⟩, ⟨bw⟩⟩
 case rest =>
  clear HC4
  try clear c1
  obtain ⟨kq, x28_3, rfl, HA, HJ3, BK199, HB⟩ := hcut
  cases kq with
  | zero => exact absurd HA.out (by simp [spec_l07LargeOk.j0])
  | succ kj3 =>
   have H := HA.out
   clear HA
   simp only [spec_l07LargeOk.j0] at H
   replace H := ib H
   rcases H with ⟨rfl, H⟩ | ⟨rfl, H⟩
   ·obtain rfl := Option.some.inj H
    go_wp2
    go_ret
    exact ⟨rt, bw⟩
   ·have HC14 := Aside0.mk H
    clear H
    obtain ⟨z15_0, z15_1, z15_2, z15_3, z15_4, z15_5, z15_6, z15_7⟩ := ca8 BK199
    obtain ⟨f15_0, f15_1, f15_2, f15_3, f15_4, f15_5, f15_6, f15_7⟩ := fa8 BK199
    go_upto_if 31 with (fail)
    go_cut [31] (fun v31 wc => ∃ (kq : Nat) (x31_13 : Bool), v31 = .bool x31_13 ∧ Aside0 (spec_l07LargeOk.j1 kq a1 a0_4 x31_13 a0_0 l0_1 l0_2 a0_3 a0_4 a0_5 a0_6 a0_7 = some r) ∧ Aside0 (kq ≤ kj3) ∧ Aside0 (wc.heap[gb199]? = some (.cells #[.int .i64 a0_0, (.slice A0_1 l0_1.length c0_1), (.slice A0_2 l0_2.length c0_2), .int .u32 a0_3, .int .i64 a0_4, .int .i64 a0_5, .int .i64 a0_6, .int .u32 a0_7] 59 (0, 0))) ∧ Aside0 (Below w.heap.size w wc))
    case first =>
     have H := HC14.out
     clear HC14
     replace H := ieq H
     rcases H with ⟨c16b0, c16b1, H⟩ | ⟨c16, c16b0, c16b1, H⟩
     ·(first | rw [c16b0] | (simp only [i64_w, i32_w]; rw [c16b0]) | (simp only [c16b2, Bool.not_true, Bool.not_false]) | (simp only [c16b1, Bool.not_true, Bool.not_false]) | skip)
      have H' := Aside0.mk H
      clear H
      go_wp2
      go_meet
      case rel => exact ⟨_, ((a0_4 == 0)), ev, H', ⟨by have := HJ3.out; first | omega | exact Nat.le_refl _⟩, ⟨bk BK199⟩, ⟨bw⟩⟩
     ·(first | rw [c16b0] | (simp only [i64_w, i32_w]; rw [c16b0]) | (simp only [c16b2, Bool.not_true, Bool.not_false]) | (simp only [c16b1, Bool.not_true, Bool.not_false]) | skip)
      have H' := Aside0.mk H
      clear H
      go_wp2
      go_meet
      case rel => exact ⟨_, ((a0_4 == 1)), ev, H', ⟨by have := HJ3.out; first | omega | exact Nat.le_refl _⟩, ⟨bk BK199⟩, ⟨bw⟩⟩
    case rest =>
     clear HC14
     try clear c1
     try clear c13
     (try clear z15_0 z15_1 z15_2 z15_3 z15_4 z15_5 z15_6 z15_7)
     (try clear f15_0 f15_1 f15_2 f15_3 f15_4 f15_5 f15_6 f15_7)
     obtain ⟨kq, x31_13, rfl, HA, HJ13, BK199, HB⟩ := hcut
     cases kq with
     | zero => exact absurd HA.out (by simp [spec_l07LargeOk.j1])
     | succ kj13 =>
      have H := HA.out
      clear HA
      simp only [spec_l07LargeOk.j1] at H
      replace H := ib H
      rcases H with ⟨rfl, H⟩ | ⟨rfl, H⟩
      ·obtain rfl := Option.some.inj H
       obtain ⟨z18_0, z18_1, z18_2, z18_3, z18_4, z18_5, z18_6, z18_7⟩ := ca8 BK199
       obtain ⟨f18_0, f18_1, f18_2, f18_3, f18_4, f18_5, f18_6, f18_7⟩ := fa8 BK199
       go_wp2
       go_ret
       exact ⟨rt, bw⟩
      ·replace H := ieq H
       rcases H with ⟨c19b0, c19b1, H⟩ | ⟨c19, c19b0, c19b1, H⟩
       ·obtain rfl := Option.some.inj H
        obtain ⟨z20_0, z20_1, z20_2, z20_3, z20_4, z20_5, z20_6, z20_7⟩ := ca8 BK199
        obtain ⟨f20_0, f20_1, f20_2, f20_3, f20_4, f20_5, f20_6, f20_7⟩ := fa8 BK199
        go_wp2
        go_ret
        exact ⟨rt, bw⟩
       ·replace H := ieq H
        rcases H with ⟨c21b0, c21b1, H⟩ | ⟨c21, c21b0, c21b1, H⟩
        ·obtain rfl := Option.some.inj H
         obtain ⟨z22_0, z22_1, z22_2, z22_3, z22_4, z22_5, z22_6, z22_7⟩ := ca8 BK199
         obtain ⟨f22_0, f22_1, f22_2, f22_3, f22_4, f22_5, f22_6, f22_7⟩ := fa8 BK199
         go_wp2
         go_ret
         exact ⟨rt, bw⟩
        ·obtain rfl := Option.some.inj H
         go_wp2
         go_ret
         exact ⟨rt, bw⟩

/-! ### spec_ChunksFor: function 50 -/
def spec_ChunksFor.f (a0 : Int) : Option (Int) := if a0 ≤ 16 then (some 0) else (if a0 > 256 then (some 0) else (some (wrap64 (Int.tdiv (wrap64 ((wrap64 (a0 + 16)) - 1)) 16))))
set_option maxHeartbeats 2000000 in
set_option maxRecDepth 100000 in
theorem spec_ChunksFor.calls (a0 : Int) (r : Int) (w : World) (h : spec_ChunksFor.f a0 = some r) :
  Calls Tryz.prog 50 #[.int .i64 a0] w fun e w' => e = .returned (.int .i64 r) ∧ Drawn0 w w' := by
 unfold spec_ChunksFor.f at h
 have H := h
 clear h
 replace H := ile H
 rcases H with ⟨c2b0, H⟩ | ⟨c2b0, H⟩
 ·obtain rfl := Option.some.inj H
  go_enter Tryz.func50, Tryz.ntmps50
  go_wp2
  go_ret
  exact ⟨ev, dr⟩
 ·replace H := igt H
  rcases H with ⟨c3b0, H⟩ | ⟨c3b0, H⟩
  ·obtain rfl := Option.some.inj H
   go_enter Tryz.func50, Tryz.ntmps50
   go_wp2
   go_ret
   exact ⟨ev, dr⟩
  ·obtain rfl := Option.some.inj H
   go_enter Tryz.func50, Tryz.ntmps50
   go_wp2
   go_ret
   exact ⟨ev, dr⟩

/-! ### spec_Ones: function 73 -/
def spec_Ones.f (k : Nat) (a0 : Int) : Option (Int) := (spec_BitList.f k a0).bind fun t200 => (some (t200.length : Int))
theorem spec_Ones.mono : ∀ a0 k, LeO (spec_Ones.f k a0) (spec_Ones.f (k + 1) a0) := by
 intro a0 k
 unfold spec_Ones.f
 repeat' first
  | (with_reducible first | exact spec_BitList.mono .. | exact LeO.refl _ | exact LeO.none _ | refine LeO.ite ?_ ?_ | refine LeO.bind ?_ (fun _ => ?_))
  | exact LeO.none _ | refine LeO.ite ?_ ?_ | refine LeO.bind ?_ (fun _ => ?_)
set_option maxHeartbeats 2000000 in
set_option maxRecDepth 100000 in
theorem spec_Ones.calls (k : Nat) (a0 : Int) (r : Int) (w : World) (h : spec_Ones.f k a0 = some r) :
  Calls Tryz.prog 73 #[.int .u32 a0] w fun e w' => e = .returned (.int .i64 r) ∧ Below w.heap.size w w' := by
 have HB := Aside0.mk (Below.refl w.heap.size w)
 unfold spec_Ones.f at h
 have H := h
 clear h
 replace H := bn H
 obtain ⟨t200, A2, H⟩ := H
 try dsimp only at H
 obtain rfl := Option.some.inj H
 go_enter Tryz.func73, Tryz.ntmps73
 go_wp2_with (first | ((with_reducible refine gf 48 ?_); refine gc Tryz.func48 (some 4) (spec_BitList.calls _ _ _ _ A2.out) ?_; rintro e w3 ⟨v201, rfl, ho0, hb⟩; refine ⟨_, rfl, ?_⟩; have HO202 := Aside0.mk (Kd.R_lower ho0 (below_size bw)); replace HB := hs hb; try clear hb; (try clear ho0); obtain ⟨Ao4, co4, eo4⟩ := Kd.R_slice HO202.out; subst eo4))
 go_ret
 exact ⟨rt, bw⟩

end Go.Proofs.YtfhcnnkeokjfpaaGreatDoor.PO1
namespace Go.Proofs.YtfhcnnkeokjfpaaGreatDoor.PO1
open Go.RowKit Go.Proofs.YtfhcnnkeokjfpaaGreatDoorW.PrintWords Go.Proofs.YtfhcnnkeokjfpaaGreatDoorW.PrintLast Go.Proofs.YtfhcnnkeokjfpaaGreatDoorW.PrintMore Go.Proofs.YtfhcnnkeokjfpaaGreatDoor.T
attribute [local go_sem] max2_int min2_int max_two min_two max_three min_three max_four min_four   -- for this text's walks alone
set_option linter.unusedVariables false
set_option linter.unusedSimpArgs false

/-! ### spec_Room: function 51 -/
mutual
def spec_Room.j0 : Nat → Int → Bool → Int → Int → Int → Int → Option (Int)
 | 0, _, _, _, _, _, _ => none
 | k + 1, x1, x12, x209000, x209001, x209002, x209003 => if x12 = true then (some 0) else (if x209000 = 0 then ((spec_PerPage.f k x1).bind fun t210 => (some t210)) else (if x209000 = 1 then (spec_Room.j1 k x1 (x209001 == x1) x209000 x209001 x209002 x209003) else (spec_Room.j1 k x1 false x209000 x209001 x209002 x209003)))
def spec_Room.j1 : Nat → Int → Bool → Int → Int → Int → Int → Option (Int)
 | 0, _, _, _, _, _, _ => none
 | k + 1, x1, x26, x209000, x209001, x209002, x209003 => if x26 = true then ((spec_PerPage.f k x1).bind fun t211 => ((spec_Ones.f k x209002).bind fun t212 => (some (wrap64 (t211 - t212))))) else (some 0)
end
def spec_Room.f (k : Nat) (a0 : Int) (a1 : Int) : Option (Int) := (spec_CtlRead.f k a0).bind fun bt203 => (if bt203.2.2.2.2 = true then ((spec_l04Class.f a1).bind fun t209 => (spec_Room.j0 k a1 (!t209) bt203.1 bt203.2.1 bt203.2.2.1 bt203.2.2.2.1)) else (spec_Room.j0 k a1 true bt203.1 bt203.2.1 bt203.2.2.1 bt203.2.2.2.1))
theorem spec_Room.mono_l : ∀ k, (∀ y0 y1 y2 y3 y4 y5, LeO (spec_Room.j0 k y0 y1 y2 y3 y4 y5) (spec_Room.j0 (k + 1) y0 y1 y2 y3 y4 y5)) ∧ (∀ y0 y1 y2 y3 y4 y5, LeO (spec_Room.j1 k y0 y1 y2 y3 y4 y5) (spec_Room.j1 (k + 1) y0 y1 y2 y3 y4 y5))
 | 0 => ⟨fun _ _ _ _ _ _ r h => by simp [spec_Room.j0] at h, fun _ _ _ _ _ _ r h => by simp [spec_Room.j1] at h⟩
 | k + 1 => by
  obtain ⟨ih0, ih1⟩ := spec_Room.mono_l k
  refine ⟨?_, ?_⟩
  ·intro y0 y1 y2 y3 y4 y5
   unfold spec_Room.j0
   repeat' first
    | (with_reducible first | exact ih0 .. | exact ih1 .. | exact spec_CtlRead.mono .. | exact spec_Ones.mono .. | exact spec_PerPage.mono .. | exact LeO.refl _ | exact LeO.none _ | refine LeO.ite ?_ ?_ | refine LeO.bind ?_ (fun _ => ?_))
    | exact LeO.none _ | refine LeO.ite ?_ ?_ | refine LeO.bind ?_ (fun _ => ?_)
  ·intro y0 y1 y2 y3 y4 y5
   unfold spec_Room.j1
   repeat' first
    | (with_reducible first | exact ih0 .. | exact ih1 .. | exact spec_CtlRead.mono .. | exact spec_Ones.mono .. | exact spec_PerPage.mono .. | exact LeO.refl _ | exact LeO.none _ | refine LeO.ite ?_ ?_ | refine LeO.bind ?_ (fun _ => ?_))
    | exact LeO.none _ | refine LeO.ite ?_ ?_ | refine LeO.bind ?_ (fun _ => ?_)
theorem spec_Room.mono : ∀ a0 a1 k, LeO (spec_Room.f k a0 a1) (spec_Room.f (k + 1) a0 a1) := by
 intro a0 a1 k
 obtain ⟨ih0, ih1⟩ := spec_Room.mono_l k
 unfold spec_Room.f
 repeat' first
  | (with_reducible first | exact ih0 .. | exact ih1 .. | exact spec_CtlRead.mono .. | exact spec_Ones.mono .. | exact spec_PerPage.mono .. | exact LeO.refl _ | exact LeO.none _ | refine LeO.ite ?_ ?_ | refine LeO.bind ?_ (fun _ => ?_))
  | exact LeO.none _ | refine LeO.ite ?_ ?_ | refine LeO.bind ?_ (fun _ => ?_)
set_option maxHeartbeats 2000000 in
set_option maxRecDepth 100000 in
theorem spec_Room.calls (k : Nat) (a0 : Int) (a1 : Int) (r : Int) (w : World) (h : spec_Room.f k a0 a1 = some r) :
  Calls Tryz.prog 51 #[.int .u32 a0, .int .i64 a1] w fun e w' => e = .returned (.int .i64 r) ∧ Below w.heap.size w w' := by
 have hu61 := Tryz.underlying61
 have HB := Aside0.mk (Below.refl w.heap.size w)
 unfold spec_Room.f at h
 have H := h
 clear h
 replace H := bn H
 obtain ⟨⟨t203, t204, t205, t206, t207⟩, A3, H⟩ := H
 try dsimp only at H
 have HC4 := Aside0.mk H
 clear H
 go_enter Tryz.func51, Tryz.ntmps51
 go_upto_region 2 with (first | ((with_reducible refine gf 28 ?_); refine gc Tryz.func28 (some 9) (spec_CtlRead.calls _ _ _ _ _ _ _ _ A3.out) ?_; rintro e w5 ⟨rfl, hb⟩; refine ⟨_, rfl, ?_⟩; replace HB := hs hb; try clear hb) | ((with_reducible refine gd 5 ?_); refine bx 5 61 #[.int .i64 0, .int .i64 0, .int .u32 0, .int .i64 0] ?_; clear HB; intro gb208 w6 hg BK208 hb GE208 HB; clear hb hg; obtain ⟨z7_0, z7_1, z7_2, z7_3⟩ := ca4 BK208; obtain ⟨f7_0, f7_1, f7_2, f7_3⟩ := fa4 BK208))
 (try refine ap ?_)
 go_cut [12] (fun v12 wc => ∃ (kq : Nat) (x12_3 : Bool), v12 = .bool x12_3 ∧ Aside0 (spec_Room.j0 kq a1 x12_3 t203 t204 t205 t206 = some r) ∧ Aside0 (kq ≤ k) ∧ Aside0 (wc.heap[gb208]? = some (.cells #[.int .i64 t203, .int .i64 t204, .int .u32 t205, .int .i64 t206] 61 (0, 0))) ∧ Aside0 (Below w.heap.size w wc))
 case first =>
  have H := HC4.out
  clear HC4
  replace H := ib H
  rcases H with ⟨rfl, H⟩ | ⟨rfl, H⟩
  ·(try simp only [Bool.not_true, Bool.not_false])
   replace H := bn H
   obtain ⟨t209, A9, H⟩ := H
   try dsimp only at H
   have H' := Aside0.mk H
   clear H
   go_wp2_with (first | (go_at_call 71; (with_reducible refine (spec_l04Class.calls _ _ _ A9.out).mono ?_); rintro e w' ⟨rfl, ⟨nd, rfl⟩⟩))
   go_meet
   case rel => exact ⟨_, (!t209), ev, H', ⟨om⟩, ⟨bp BK208⟩, ⟨bw⟩⟩
  ·(try simp only [Bool.not_true, Bool.not_false])
   have H' := Aside0.mk H
   clear H
   go_wp2
   go_meet
   case rel => exact ⟨_, (true), ev, H', ⟨om⟩, ⟨bp BK208⟩, ⟨bw⟩⟩
 case rest =>
  clear HC4
  (try clear z7_0 z7_1 z7_2 z7_3)
  (try clear f7_0 f7_1 f7_2 f7_3)
  obtain ⟨kq, x12_3, rfl, HA, HJ3, BK208, HB⟩ := hcut
  cases kq with
  | zero => exact absurd HA.out (by simp [spec_Room.j0])
  | succ kj3 =>
   have H := HA.out
   clear HA
   simp only [spec_Room.j0] at H
   replace H := ib H
   rcases H with ⟨rfl, H⟩ | ⟨rfl, H⟩
   ·obtain rfl := Option.some.inj H
    go_wp2
    go_ret
    exact ⟨rt, bw⟩
   ·replace H := ieq H
    rcases H with ⟨c11b0, c11b1, H⟩ | ⟨c11, c11b0, c11b1, H⟩
    ·replace H := bn H
     obtain ⟨t210, A12, H⟩ := H
     try dsimp only at H
     obtain rfl := Option.some.inj H
     obtain ⟨z13_0, z13_1, z13_2, z13_3⟩ := ca4 BK208
     obtain ⟨f13_0, f13_1, f13_2, f13_3⟩ := fa4 BK208
     go_wp2_with (first | ((with_reducible refine gf 72 ?_); refine gc Tryz.func72 (some 25) (spec_PerPage.calls _ _ _ _ A12.out) ?_; rintro e w' ⟨rfl, ⟨nd, rfl⟩⟩; refine ⟨_, rfl, ?_⟩))
     go_ret
     exact ⟨rt, bw⟩
    ·have HC14 := Aside0.mk H
     clear H
     obtain ⟨z15_0, z15_1, z15_2, z15_3⟩ := ca4 BK208
     obtain ⟨f15_0, f15_1, f15_2, f15_3⟩ := fa4 BK208
     go_upto_region 6 with (fail)
     go_cut [26] (fun v26 wc => ∃ (kq : Nat) (x26_13 : Bool), v26 = .bool x26_13 ∧ Aside0 (spec_Room.j1 kq a1 x26_13 t203 t204 t205 t206 = some r) ∧ Aside0 (kq ≤ kj3) ∧ Aside0 (wc.heap[gb208]? = some (.cells #[.int .i64 t203, .int .i64 t204, .int .u32 t205, .int .i64 t206] 61 (0, 0))) ∧ Aside0 (Below w.heap.size w wc))
     case first =>
      have H := HC14.out
      clear HC14
      replace H := ieq H
      rcases H with ⟨c16b0, c16b1, H⟩ | ⟨c16, c16b0, c16b1, H⟩
      ·(first | rw [c16b0] | (simp only [i64_w, i32_w]; rw [c16b0]) | (simp only [c16b2, Bool.not_true, Bool.not_false]) | (simp only [c16b1, Bool.not_true, Bool.not_false]) | skip)
       have H' := Aside0.mk H
       clear H
       obtain ⟨z17_0, z17_1, z17_2, z17_3⟩ := ca4 BK208
       obtain ⟨f17_0, f17_1, f17_2, f17_3⟩ := fa4 BK208
       go_wp2
       go_meet
       case rel => exact ⟨_, ((t204 == a1)), ev, H', ⟨by have := HJ3.out; first | omega | exact Nat.le_refl _⟩, ⟨bk BK208⟩, ⟨bw⟩⟩
      ·(first | rw [c16b0] | (simp only [i64_w, i32_w]; rw [c16b0]) | (simp only [c16b2, Bool.not_true, Bool.not_false]) | (simp only [c16b1, Bool.not_true, Bool.not_false]) | skip)
       have H' := Aside0.mk H
       clear H
       obtain ⟨z18_0, z18_1, z18_2, z18_3⟩ := ca4 BK208
       obtain ⟨f18_0, f18_1, f18_2, f18_3⟩ := fa4 BK208
       go_wp2
       go_meet
       case rel => exact ⟨_, (false), ev, H', ⟨by have := HJ3.out; first | omega | exact Nat.le_refl _⟩, ⟨bk BK208⟩, ⟨bw⟩⟩
     case rest =>
      clear HC14
      try clear c10
      try clear c11
      try clear c11b0
      try clear c11b1
      (try clear z15_0 z15_1 z15_2 z15_3)
      (try clear z7_0 z7_1 z7_2 z7_3)
      (try clear f15_0 f15_1 f15_2 f15_3)
      (try clear f7_0 f7_1 f7_2 f7_3)
      obtain ⟨kq, x26_13, rfl, HA, HJ13, BK208, HB⟩ := hcut
      cases kq with
      | zero => exact absurd HA.out (by simp [spec_Room.j1])
      | succ kj13 =>
       have H := HA.out
       clear HA
       simp only [spec_Room.j1] at H
       replace H := ib H
       rcases H with ⟨rfl, H⟩ | ⟨rfl, H⟩
       ·replace H := bn H
        obtain ⟨t211, A20, H⟩ := H
        try dsimp only at H
        replace H := bn H
        obtain ⟨t212, A21, H⟩ := H
        try dsimp only at H
        obtain rfl := Option.some.inj H
        try go_wp2
        replace BK208 := bd BK208
        replace HB := hd HB
        refine st0 7 (fun w' => CA w' gb208 0 [.int .i64 t203, .int .i64 t204, .int .u32 t205, .int .i64 t206]) [] (cx BK208) ?_; intro hHeld
        generalize wc.drew = w22 at BK208 HB hHeld ⊢
        refine pu 0 36 (bl 7 1) ?_
        refine pu 2 38 (bl 7 5) ?_
        refine tk 3 39 (bl 7 13) ?_
        refine on_ 1 (some 37) (bl 7 15) (fun K hK => ?_)
        refine gq Tryz.func72 (spec_PerPage.calls _ _ _ _ A20.out) ?_
        rintro e w' ⟨rfl, ⟨nd, rfl⟩⟩
        refine ⟨_, rfl, ?_⟩
        refine hK.out _ _ (cx BK208) (fun hHeld => ?_)
        clear hK K
        refine nm ?_
        refine on_ 4 (some 40) (bl 7 31) (fun K hK => ?_)
        refine gq Tryz.func73 (spec_Ones.calls _ _ _ _ A21.out) ?_
        rintro e w23 ⟨rfl, hb⟩
        refine ⟨_, rfl, ?_⟩
        replace BK208 := b_ BK208 hb
        replace HB := hs hb
        (try clear hb)
        (try clear hb2)
        (try clear hk)
        (try clear hi)
        refine hK.out _ _ (cx BK208) (fun hHeld => ?_)
        clear hK K
        refine nm ?_
        refine pu 5 41 (bl 7 63) ?_
        refine pu 6 4 (bl 7 127) ?_
        refine dn ?_ _
        try go_wp2
        go_ret
        exact ⟨rt, bw⟩
       ·obtain rfl := Option.some.inj H
        go_wp2
        go_ret
        exact ⟨rt, bw⟩

/-! ### spec_ClassOf: function 52 -/
mutual
def spec_ClassOf.l0 : Nat → Int → Int → Option (Int)
 | 0, _, _ => none
 | k + 1, x0, x3 => if x3 < 5 then (spec_ClassOf.j1 k x0 x3 (decide (x0 ≥ 1))) else (spec_ClassOf.j1 k x0 x3 false)
def spec_ClassOf.j1 : Nat → Int → Int → Bool → Option (Int)
 | 0, _, _, _ => none
 | k + 1, x0, x3, x9 => if x9 = true then ((spec_l04Pow.f k x3).bind fun t213 => (if t213 ≥ x0 then (some x3) else (spec_ClassOf.l0 k x0 (wrap64 (x3 + 1))))) else (some (-1))
end
def spec_ClassOf.f (k : Nat) (a0 : Int) : Option (Int) := spec_ClassOf.l0 k a0 0
theorem spec_ClassOf.mono_l : ∀ k, (∀ y0 y1, LeO (spec_ClassOf.l0 k y0 y1) (spec_ClassOf.l0 (k + 1) y0 y1)) ∧ (∀ y0 y1 y2, LeO (spec_ClassOf.j1 k y0 y1 y2) (spec_ClassOf.j1 (k + 1) y0 y1 y2))
 | 0 => ⟨fun _ _ r h => by simp [spec_ClassOf.l0] at h, fun _ _ _ r h => by simp [spec_ClassOf.j1] at h⟩
 | k + 1 => by
  obtain ⟨ih0, ih1⟩ := spec_ClassOf.mono_l k
  refine ⟨?_, ?_⟩
  ·intro y0 y1
   unfold spec_ClassOf.l0
   repeat' first
    | (with_reducible first | exact ih0 .. | exact ih1 .. | exact spec_l04Pow.mono .. | exact LeO.refl _ | exact LeO.none _ | refine LeO.ite ?_ ?_ | refine LeO.bind ?_ (fun _ => ?_))
    | exact LeO.none _ | refine LeO.ite ?_ ?_ | refine LeO.bind ?_ (fun _ => ?_)
  ·intro y0 y1 y2
   unfold spec_ClassOf.j1
   repeat' first
    | (with_reducible first | exact ih0 .. | exact ih1 .. | exact spec_l04Pow.mono .. | exact LeO.refl _ | exact LeO.none _ | refine LeO.ite ?_ ?_ | refine LeO.bind ?_ (fun _ => ?_))
    | exact LeO.none _ | refine LeO.ite ?_ ?_ | refine LeO.bind ?_ (fun _ => ?_)
theorem spec_ClassOf.mono : ∀ a0 k, LeO (spec_ClassOf.f k a0) (spec_ClassOf.f (k + 1) a0) := by
 intro a0 k
 obtain ⟨ih0, ih1⟩ := spec_ClassOf.mono_l k
 unfold spec_ClassOf.f
 repeat' first
  | (with_reducible first | exact ih0 .. | exact ih1 .. | exact spec_l04Pow.mono .. | exact LeO.refl _ | exact LeO.none _ | refine LeO.ite ?_ ?_ | refine LeO.bind ?_ (fun _ => ?_))
  | exact LeO.none _ | refine LeO.ite ?_ ?_ | refine LeO.bind ?_ (fun _ => ?_)
set_option maxHeartbeats 2000000 in
set_option maxRecDepth 100000 in
theorem spec_ClassOf.calls (k : Nat) (a0 : Int) (r : Int) (w : World) (h : spec_ClassOf.f k a0 = some r) :
  Calls Tryz.prog 52 #[.int .i64 a0] w fun e w' => e = .returned (.int .i64 r) ∧ Drawn0 w w' := by
 unfold spec_ClassOf.f at h
 have H := h
 clear h
 have H' := Aside0.mk H
 clear H
 go_enter Tryz.func52, Tryz.ntmps52
 go_wp2
 go_loopg [3] k (fun kq v3 w' => ∃ (x3_1 : Int), v3 = .int .i64 x3_1 ∧ Aside0 (spec_ClassOf.l0 kq a0 x3_1 = some r) ∧ Aside0 (kq ≤ k) ∧ Drawn0 w w')
 case atStart => exact ⟨(0), ev, H', ⟨Nat.le_refl _⟩, dr⟩
 case round =>
  clear H'
  obtain ⟨x3_1, rfl, HA, HK1, ⟨m1, rfl⟩⟩ := hrel
  cases gk with
  | zero => exact absurd HA.out (by simp [spec_ClassOf.l0])
  | succ k1 =>
   have H := HA.out
   clear HA
   simp only [spec_ClassOf.l0] at H
   have HC2 := Aside0.mk H
   clear H
   go_upto_region 2 with (fail)
   go_cut [9] (fun v9 wc => ∃ (kq : Nat) (x9_1 : Bool), v9 = .bool x9_1 ∧ Aside0 (spec_ClassOf.j1 kq a0 x3_1 x9_1 = some r) ∧ Aside0 (kq ≤ k1) ∧ Drawn0 w wc)
   case first =>
    have H := HC2.out
    clear HC2
    replace H := ilt H
    rcases H with ⟨c3b0, H⟩ | ⟨c3b0, H⟩
    ·(first | rw [c3b0] | (simp only [i64_w, i32_w]; rw [c3b0]) | (simp only [c3b2, Bool.not_true, Bool.not_false]) | (simp only [c3b1, Bool.not_true, Bool.not_false]) | skip)
     have H' := Aside0.mk H
     clear H
     go_wp2
     go_meet
     case rel => exact ⟨_, (decide (a0 ≥ 1)), ev, H', ⟨by have := HK1.out; first | omega | exact Nat.le_refl _⟩, dr⟩
    ·(first | rw [c3b0] | (simp only [i64_w, i32_w]; rw [c3b0]) | (simp only [c3b2, Bool.not_true, Bool.not_false]) | (simp only [c3b1, Bool.not_true, Bool.not_false]) | skip)
     have H' := Aside0.mk H
     clear H
     go_wp2
     go_meet
     case rel => exact ⟨_, (false), ev, H', ⟨by have := HK1.out; first | omega | exact Nat.le_refl _⟩, dr⟩
   case rest =>
    clear HC2
    obtain ⟨kq, x9_1, rfl, HA, HJ1, ⟨mc1, rfl⟩⟩ := hcut
    cases kq with
    | zero => exact absurd HA.out (by simp [spec_ClassOf.j1])
    | succ kj1 =>
     have H := HA.out
     clear HA
     simp only [spec_ClassOf.j1] at H
     replace H := ib H
     rcases H with ⟨rfl, H⟩ | ⟨rfl, H⟩
     ·replace H := bn H
      obtain ⟨t213, A5, H⟩ := H
      try dsimp only at H
      have HU6 := Aside0.mk H
      clear H
      go_upto_if 15 with (first | ((with_reducible refine gf 74 ?_); refine gc Tryz.func74 (some 13) (spec_l04Pow.calls _ _ _ _ A5.out) ?_; rintro e w' ⟨rfl, ⟨nd, rfl⟩⟩; refine ⟨_, rfl, ?_⟩))
      (try refine ap ?_)
      have H := HU6.out
      clear HU6
      replace H := ige H
      rcases H with ⟨c7b0, H⟩ | ⟨c7b0, H⟩
      ·(first | rw [c7b0] | (simp only [i64_w, i32_w]; rw [c7b0]) | (simp only [c7b2, Bool.not_true, Bool.not_false]) | (simp only [c7b1, Bool.not_true, Bool.not_false]) | skip)
       obtain rfl := Option.some.inj H
       go_wp2
       go_ret
       exact ⟨ev, dr⟩
      ·(first | rw [c7b0] | (simp only [i64_w, i32_w]; rw [c7b0]) | (simp only [c7b2, Bool.not_true, Bool.not_false]) | (simp only [c7b1, Bool.not_true, Bool.not_false]) | skip)
       have H' := Aside0.mk H
       clear H
       go_wp2
       go_roundg kj1
       case measure => have := HK1.out; have := HJ1.out; omega
       case rel => exact ⟨(wrap64 (x3_1 + 1)), ev, H', ⟨by have := HK1.out; have := HJ1.out; omega⟩, dr⟩
     ·obtain rfl := Option.some.inj H
      go_wp2
      go_ret
      exact ⟨ev, dr⟩

/-! ### spec_ClassSize: function 97 -/
def spec_ClassSize.f (k : Nat) (a0 : Int) : Option (Int) := (spec_l04Class.f a0).bind fun t214 => (if t214 = true then ((spec_l04Pow.f k a0).bind fun t215 => (some t215)) else (some 0))
theorem spec_ClassSize.mono : ∀ a0 k, LeO (spec_ClassSize.f k a0) (spec_ClassSize.f (k + 1) a0) := by
 intro a0 k
 unfold spec_ClassSize.f
 repeat' first
  | (with_reducible first | exact spec_l04Pow.mono .. | exact LeO.refl _ | exact LeO.none _ | refine LeO.ite ?_ ?_ | refine LeO.bind ?_ (fun _ => ?_))
  | exact LeO.none _ | refine LeO.ite ?_ ?_ | refine LeO.bind ?_ (fun _ => ?_)
set_option maxHeartbeats 2000000 in
set_option maxRecDepth 100000 in
theorem spec_ClassSize.calls (k : Nat) (a0 : Int) (r : Int) (w : World) (h : spec_ClassSize.f k a0 = some r) :
  Calls Tryz.prog 97 #[.int .i64 a0] w fun e w' => e = .returned (.int .i64 r) ∧ Drawn0 w w' := by
 unfold spec_ClassSize.f at h
 have H := h
 clear h
 replace H := bn H
 obtain ⟨t214, A2, H⟩ := H
 try dsimp only at H
 have HU3 := Aside0.mk H
 clear H
 go_enter Tryz.func97, Tryz.ntmps97
 go_upto_if 5 with (first | ((with_reducible refine gf 71 ?_); refine gc Tryz.func71 (some 4) (spec_l04Class.calls _ _ _ A2.out) ?_; rintro e w' ⟨rfl, ⟨nd, rfl⟩⟩; refine ⟨_, rfl, ?_⟩))
 (try refine ap ?_)
 have H := HU3.out
 clear HU3
 replace H := ib H
 rcases H with ⟨rfl, H⟩ | ⟨rfl, H⟩
 ·(try simp only [Bool.not_true, Bool.not_false])
  replace H := bn H
  obtain ⟨t215, A5, H⟩ := H
  try dsimp only at H
  obtain rfl := Option.some.inj H
  go_wp2_with (first | ((with_reducible refine gf 74 ?_); refine gc Tryz.func74 (some 7) (spec_l04Pow.calls _ _ _ _ A5.out) ?_; rintro e w' ⟨rfl, ⟨nd, rfl⟩⟩; refine ⟨_, rfl, ?_⟩))
  go_ret
  exact ⟨ev, dr⟩
 ·(try simp only [Bool.not_true, Bool.not_false])
  obtain rfl := Option.some.inj H
  go_wp2
  go_ret
  exact ⟨ev, dr⟩

/-! ### spec_BlockAt: function 89 -/
def spec_BlockAt.j0 : Nat → Int → Bool → Int → Int → Int → Int → Option (Int × Int × Bool)
 | 0, _, _, _, _, _, _ => none
 | k + 1, x1, x30, x222000, x222001, x222002, x222003 => if x30 = true then (some (0, 0, false)) else ((spec_ClassSize.f k x222001).bind fun t222 => ((spec_l01Bits.f k x222002).bind fun t223 => (if t222 = 0 then (none) else (if 0 ≤ (wrap64 (Int.tdiv x1 t222)) then (if (wrap64 (Int.tdiv x1 t222)) < (t223.length : Int) then (if (rd t223 (wrap64 (Int.tdiv x1 t222))) = 0 then (some (0, 0, false)) else (some (wrap64 ((wrap64 (Int.tdiv x1 t222)) * t222), t222, true))) else (none)) else (none)))))
def spec_BlockAt.f (k : Nat) (a0 : Int) (a1 : Int) : Option (Int × Int × Bool) := (spec_CtlRead.f k a0).bind fun bt216 => (if bt216.2.2.2.2 = true then (if bt216.1 = 1 then (if a1 < 0 then (spec_BlockAt.j0 k a1 true bt216.1 bt216.2.1 bt216.2.2.1 bt216.2.2.2.1) else (spec_BlockAt.j0 k a1 (decide (a1 ≥ 16)) bt216.1 bt216.2.1 bt216.2.2.1 bt216.2.2.2.1)) else (spec_BlockAt.j0 k a1 true bt216.1 bt216.2.1 bt216.2.2.1 bt216.2.2.2.1)) else (spec_BlockAt.j0 k a1 true bt216.1 bt216.2.1 bt216.2.2.1 bt216.2.2.2.1))
theorem spec_BlockAt.mono_l : ∀ k, (∀ y0 y1 y2 y3 y4 y5, LeO (spec_BlockAt.j0 k y0 y1 y2 y3 y4 y5) (spec_BlockAt.j0 (k + 1) y0 y1 y2 y3 y4 y5))
 | 0 => fun _ _ _ _ _ _ r h => by simp [spec_BlockAt.j0] at h
 | k + 1 => by
  have ih0 := spec_BlockAt.mono_l k
  ·intro y0 y1 y2 y3 y4 y5
   unfold spec_BlockAt.j0
   repeat' first
    | (with_reducible first | exact ih0 .. | exact spec_ClassSize.mono .. | exact spec_CtlRead.mono .. | exact spec_l01Bits.mono .. | exact LeO.refl _ | exact LeO.none _ | refine LeO.ite ?_ ?_ | refine LeO.bind ?_ (fun _ => ?_))
    | exact LeO.none _ | refine LeO.ite ?_ ?_ | refine LeO.bind ?_ (fun _ => ?_)
theorem spec_BlockAt.mono : ∀ a0 a1 k, LeO (spec_BlockAt.f k a0 a1) (spec_BlockAt.f (k + 1) a0 a1) := by
 intro a0 a1 k
 have ih0 := spec_BlockAt.mono_l k
 unfold spec_BlockAt.f
 repeat' first
  | (with_reducible first | exact ih0 .. | exact spec_ClassSize.mono .. | exact spec_CtlRead.mono .. | exact spec_l01Bits.mono .. | exact LeO.refl _ | exact LeO.none _ | refine LeO.ite ?_ ?_ | refine LeO.bind ?_ (fun _ => ?_))
  | exact LeO.none _ | refine LeO.ite ?_ ?_ | refine LeO.bind ?_ (fun _ => ?_)
set_option maxHeartbeats 2000000 in
set_option maxRecDepth 100000 in
theorem spec_BlockAt.calls (k : Nat) (a0 : Int) (a1 : Int) (r1 : Int) (r2 : Int) (r3 : Bool) (w : World) (h : spec_BlockAt.f k a0 a1 = some (r1, r2, r3)) :
  Calls Tryz.prog 89 #[.int .u32 a0, .int .i64 a1] w fun e w' => e = .returned (.tuple #[.int .i64 r1, .int .i64 r2, .bool r3]) ∧ Below w.heap.size w w' := by
 have hu61 := Tryz.underlying61
 have HB := Aside0.mk (Below.refl w.heap.size w)
 unfold spec_BlockAt.f at h
 have H := h
 clear h
 replace H := bn H
 obtain ⟨⟨t216, t217, t218, t219, t220⟩, A3, H⟩ := H
 try dsimp only at H
 have HC4 := Aside0.mk H
 clear H
 go_enter Tryz.func89, Tryz.ntmps89
 go_upto_region 2 with (first | ((with_reducible refine gf 28 ?_); refine gc Tryz.func28 (some 13) (spec_CtlRead.calls _ _ _ _ _ _ _ _ A3.out) ?_; rintro e w5 ⟨rfl, hb⟩; refine ⟨_, rfl, ?_⟩; replace HB := hs hb; try clear hb) | ((with_reducible refine gd 7 ?_); refine bx 7 61 #[.int .i64 0, .int .i64 0, .int .u32 0, .int .i64 0] ?_; clear HB; intro gb221 w6 hg BK221 hb GE221 HB; clear hb hg; obtain ⟨z7_0, z7_1, z7_2, z7_3⟩ := ca4 BK221; obtain ⟨f7_0, f7_1, f7_2, f7_3⟩ := fa4 BK221))
 (try refine ap ?_)
 go_cut [30] (fun v30 wc => ∃ (kq : Nat) (x30_3 : Bool), v30 = .bool x30_3 ∧ Aside0 (spec_BlockAt.j0 kq a1 x30_3 t216 t217 t218 t219 = some (r1, r2, r3)) ∧ Aside0 (kq ≤ k) ∧ Aside0 (wc.heap[gb221]? = some (.cells #[.int .i64 t216, .int .i64 t217, .int .u32 t218, .int .i64 t219] 61 (0, 0))) ∧ Aside0 (Below w.heap.size w wc))
 case first =>
  have H := HC4.out
  clear HC4
  replace H := ib H
  rcases H with ⟨rfl, H⟩ | ⟨rfl, H⟩
  ·(try simp only [Bool.not_true, Bool.not_false])
   replace H := ieq H
   rcases H with ⟨c9b0, c9b1, H⟩ | ⟨c9, c9b0, c9b1, H⟩
   ·replace H := ilt H
    rcases H with ⟨c10b0, H⟩ | ⟨c10b0, H⟩
    ·have H' := Aside0.mk H
     clear H
     obtain ⟨z11_0, z11_1, z11_2, z11_3⟩ := ca4 BK221
     obtain ⟨f11_0, f11_1, f11_2, f11_3⟩ := fa4 BK221
     go_wp2
     go_meet
     case rel => exact ⟨_, (true), ev, H', ⟨om⟩, ⟨bp BK221⟩, ⟨bw⟩⟩
    ·have H' := Aside0.mk H
     clear H
     obtain ⟨z12_0, z12_1, z12_2, z12_3⟩ := ca4 BK221
     obtain ⟨f12_0, f12_1, f12_2, f12_3⟩ := fa4 BK221
     go_wp2
     go_meet
     case rel => exact ⟨_, (decide (a1 ≥ 16)), ev, H', ⟨om⟩, ⟨bp BK221⟩, ⟨bw⟩⟩
   ·have H' := Aside0.mk H
    clear H
    obtain ⟨z13_0, z13_1, z13_2, z13_3⟩ := ca4 BK221
    obtain ⟨f13_0, f13_1, f13_2, f13_3⟩ := fa4 BK221
    go_wp2
    go_meet
    case rel => exact ⟨_, (true), ev, H', ⟨om⟩, ⟨bp BK221⟩, ⟨bw⟩⟩
  ·(try simp only [Bool.not_true, Bool.not_false])
   have H' := Aside0.mk H
   clear H
   go_wp2
   go_meet
   case rel => exact ⟨_, (true), ev, H', ⟨om⟩, ⟨bp BK221⟩, ⟨bw⟩⟩
 case rest =>
  clear HC4
  (try clear z7_0 z7_1 z7_2 z7_3)
  (try clear f7_0 f7_1 f7_2 f7_3)
  obtain ⟨kq, x30_3, rfl, HA, HJ3, BK221, HB⟩ := hcut
  cases kq with
  | zero => exact absurd HA.out (by simp [spec_BlockAt.j0])
  | succ kj3 =>
   have H := HA.out
   clear HA
   simp only [spec_BlockAt.j0] at H
   replace H := ib H
   rcases H with ⟨rfl, H⟩ | ⟨rfl, H⟩
   ·simp only [Option.some.injEq, Prod.mk.injEq] at H
    obtain ⟨rfl, rfl, rfl⟩ := H
    go_wp2
    go_ret3
    exact ⟨rt, bw⟩
   ·replace H := bn H
    obtain ⟨t222, A15, H⟩ := H
    try dsimp only at H
    replace H := bn H
    obtain ⟨t223, A16, H⟩ := H
    try dsimp only at H
    by_cases c17 : t222 = 0
    ·rw [if_pos c17] at H
     exact absurd H (by simp)
    ·rw [if_neg c17] at H
     have c17b0 : (t222 == 0) = false := beq_eq_false_iff_ne.mpr c17
     have c17b1 : (t222 != 0) = true := bne_iff_ne.mpr c17
     obtain ⟨ji18, hji18⟩ : ∃ j_ : Int, (wrap64 (Int.tdiv a1 t222)) = j_ := ⟨_, rfl⟩
     first | rw [hji18] at H | simp only [hji18] at H
     (try rw [hji18] at A15)
     (try rw [hji18] at A16)
     have hji18w : (IntKind.i64.wrap (Int.tdiv a1 t222)) = ji18 := (i64_w _).trans hji18
     by_cases c19 : 0 ≤ (ji18)
     ·rw [if_pos c19] at H
      have c19b0 : decide (0 ≤ (ji18)) = true := decide_eq_true c19
      clear c19
      by_cases c20 : (ji18) < (t223.length : Int)
      ·rw [if_pos c20] at H
       have c20b0 : decide ((ji18) < (t223.length : Int)) = true := decide_eq_true c20
       clear c20
       have HU21 := Aside0.mk H
       clear H
       obtain ⟨z22_0, z22_1, z22_2, z22_3⟩ := ca4 BK221
       obtain ⟨f22_0, f22_1, f22_2, f22_3⟩ := fa4 BK221
       go_upto_if 43 with (first | ((with_reducible refine gf 97 ?_); refine gc Tryz.func97 (some 33) (spec_ClassSize.calls _ _ _ _ A15.out) ?_; rintro e w' ⟨rfl, ⟨nd, rfl⟩⟩; refine ⟨_, rfl, ?_⟩) | ((with_reducible refine gf 70 ?_); refine gc Tryz.func70 (some 36) (spec_l01Bits.calls _ _ _ _ A16.out) ?_; rintro e w23 ⟨v224, rfl, ho0, hb⟩; refine ⟨_, rfl, ?_⟩; have HO225 := Aside0.mk (Kd.R_lower ho0 (below_size bw)); replace BK221 := b_ BK221 hb; replace HB := hs hb; try clear hb; (try clear ho0); obtain ⟨Ao24, co24, eo24⟩ := Kd.R_slice HO225.out; subst eo24; have p226 : 0 ≤ ((ji18) : Int) := of_decide_eq_true as_; have q226 : (ji18) < (t223.length : Int) := of_decide_eq_true as_; obtain ⟨ad226, e226, hx226_0⟩ := Kd.at_int (Kd.R_reads' HO225.out).2.2 (ji18) p226 q226; cases e226; replace p226 := eq_true p226; replace q226 := eq_true q226))
       (try refine ap ?_)
       have H := HU21.out
       clear HU21
       replace H := ieq H
       rcases H with ⟨c25b0, c25b1, H⟩ | ⟨c25, c25b0, c25b1, H⟩
       ·(first | rw [c25b0] | (simp only [i64_w, i32_w]; rw [c25b0]) | (simp only [c25b2, Bool.not_true, Bool.not_false]) | (simp only [c25b1, Bool.not_true, Bool.not_false]) | skip)
        simp only [Option.some.injEq, Prod.mk.injEq] at H
        obtain ⟨rfl, rfl, rfl⟩ := H
        go_wp2
        go_ret3
        exact ⟨by first | exact rt1 | (simp only [← hji18]; exact rt1) | exact rt, bw⟩
       ·(first | rw [c25b0] | (simp only [i64_w, i32_w]; rw [c25b0]) | (simp only [c25b2, Bool.not_true, Bool.not_false]) | (simp only [c25b1, Bool.not_true, Bool.not_false]) | skip)
        simp only [Option.some.injEq, Prod.mk.injEq] at H
        obtain ⟨rfl, rfl, rfl⟩ := H
        go_wp2
        go_ret3
        exact ⟨by first | exact rt1 | (simp only [← hji18]; exact rt1) | exact rt, bw⟩
      ·rw [if_neg c20] at H
       exact absurd H (by simp)
     ·rw [if_neg c19] at H
      exact absurd H (by simp)

end Go.Proofs.YtfhcnnkeokjfpaaGreatDoor.PO1
namespace Go.Proofs.YtfhcnnkeokjfpaaGreatDoor.PO1
open Go.RowKit Go.Proofs.YtfhcnnkeokjfpaaGreatDoorW.PrintWords Go.Proofs.YtfhcnnkeokjfpaaGreatDoorW.PrintLast Go.Proofs.YtfhcnnkeokjfpaaGreatDoorW.PrintMore Go.Proofs.YtfhcnnkeokjfpaaGreatDoor.T
attribute [local go_sem] max2_int min2_int max_two min_two max_three min_three max_four min_four   -- for this text's walks alone
set_option linter.unusedVariables false
set_option linter.unusedSimpArgs false

/-! ### spec_l01Word: function 98 -/
def spec_l01Word.l0 : Nat → List Int → Int → Int → Option (Int)
 | 0, _, _, _ => none
 | k + 1, x0, x3, x4 => if x4 ≥ 0 then (if 0 ≤ x4 then (if x4 < (x0.length : Int) then (spec_l01Word.l0 k x0 ((((2 * x3) % 4294967296) + ((rd x0 x4) % 4294967296)) % 4294967296) (wrap64 (x4 - 1))) else (none)) else (none)) else (some x3)
def spec_l01Word.f (k : Nat) (l0 : List Int) : Option (Int) := spec_l01Word.l0 k l0 0 (wrap64 ((l0.length : Int) - 1))
theorem spec_l01Word.mono_l : ∀ k, (∀ y0 y1 y2, LeO (spec_l01Word.l0 k y0 y1 y2) (spec_l01Word.l0 (k + 1) y0 y1 y2))
 | 0 => fun _ _ _ r h => by simp [spec_l01Word.l0] at h
 | k + 1 => by
  have ih0 := spec_l01Word.mono_l k
  ·intro y0 y1 y2
   unfold spec_l01Word.l0
   repeat' first
    | (with_reducible first | exact ih0 .. | exact LeO.refl _ | exact LeO.none _ | refine LeO.ite ?_ ?_ | refine LeO.bind ?_ (fun _ => ?_))
    | exact LeO.none _ | refine LeO.ite ?_ ?_ | refine LeO.bind ?_ (fun _ => ?_)
theorem spec_l01Word.mono : ∀ a0 k, LeO (spec_l01Word.f k a0) (spec_l01Word.f (k + 1) a0) := by
 intro a0 k
 have ih0 := spec_l01Word.mono_l k
 unfold spec_l01Word.f
 repeat' first
  | (with_reducible first | exact ih0 .. | exact LeO.refl _ | exact LeO.none _ | refine LeO.ite ?_ ?_ | refine LeO.bind ?_ (fun _ => ?_))
  | exact LeO.none _ | refine LeO.ite ?_ ?_ | refine LeO.bind ?_ (fun _ => ?_)
set_option maxHeartbeats 2000000 in
set_option maxRecDepth 100000 in
theorem spec_l01Word.calls (k : Nat) (A0 : Option Addr) (c0 : Nat) (l0 : List Int) (r : Int) (w : World) (hr0 : Kd.C (Kd.int .i64) w A0 l0.length l0) (hc0 : l0.length ≤ c0) (h : spec_l01Word.f k l0 = some r) :
  Calls Tryz.prog 98 #[.slice A0 l0.length c0] w fun e w' => e = .returned (.int .u32 r) ∧ Drawn0 w w' := by
 have HR0 := Aside0.mk hr0
 have HC0 := Aside0.mk hc0
 clear hr0 hc0
 unfold spec_l01Word.f at h
 have H := h
 clear h
 have H' := Aside0.mk H
 clear H
 go_enter Tryz.func98, Tryz.ntmps98
 go_wp2
 go_loopg [3, 4] k (fun kq v3 v4 w' => ∃ (x3_1 : Int) (x4_1 : Int), v3 = .int .u32 x3_1 ∧ v4 = .int .i64 x4_1 ∧ Aside0 (spec_l01Word.l0 kq l0 x3_1 x4_1 = some r) ∧ Aside0 (kq ≤ k) ∧ Drawn0 w w')
 case atStart => exact ⟨(0), (wrap64 ((l0.length : Int) - 1)), ev, ev, H', ⟨Nat.le_refl _⟩, dr⟩
 case round =>
  clear H'
  obtain ⟨x3_1, x4_1, rfl, rfl, HA, HK1, ⟨m1, rfl⟩⟩ := hrel
  cases gk with
  | zero => exact absurd HA.out (by simp [spec_l01Word.l0])
  | succ k1 =>
   have H := HA.out
   clear HA
   simp only [spec_l01Word.l0] at H
   replace H := ige H
   rcases H with ⟨c2b0, H⟩ | ⟨c2b0, H⟩
   ·by_cases c3 : 0 ≤ x4_1
    ·rw [if_pos c3] at H
     have c3b0 : decide (0 ≤ x4_1) = true := decide_eq_true c3
     clear c3
     by_cases c4 : x4_1 < (l0.length : Int)
     ·rw [if_pos c4] at H
      have c4b0 : decide (x4_1 < (l0.length : Int)) = true := decide_eq_true c4
      clear c4
      have H' := Aside0.mk H
      clear H
      have p227 : 0 ≤ (x4_1 : Int) := of_decide_eq_true as_
      have q227 : x4_1 < (l0.length : Int) := of_decide_eq_true as_
      obtain ⟨ad227, e227, hx227_0⟩ := Kd.at_int HR0.out x4_1 p227 q227
      cases e227
      replace p227 := eq_true p227
      replace q227 := eq_true q227
      go_wp2
      go_roundg k1
      case measure => have := HK1.out; omega
      case rel => exact ⟨((((2 * x3_1) % 4294967296) + ((rd l0 x4_1) % 4294967296)) % 4294967296), (wrap64 (x4_1 - 1)), ev, ev, H', ⟨oa HK1⟩, dr⟩
     ·rw [if_neg c4] at H
      exact absurd H (by simp)
    ·rw [if_neg c3] at H
     exact absurd H (by simp)
   ·obtain rfl := Option.some.inj H
    go_wp2
    go_ret
    exact ⟨ev, dr⟩

/-! ### spec_BitsOf: function 90 -/
def spec_BitsOf.l0 : Nat → List Int → List Int → Int → Option (Int × Bool)
 | 0, _, _, _ => none
 | k + 1, x0, x4, x5 => if x5 < (x0.length : Int) then (if 0 ≤ x5 then (if (rd x0 x5) < 0 then (some (0, false)) else (if (rd x0 x5) > 31 then (some (0, false)) else (if 0 ≤ (rd x0 x5) then (if (rd x0 x5) < (x4.length : Int) then (if (rd x4 (rd x0 x5)) = 1 then (some (0, false)) else (spec_BitsOf.l0 k x0 (x4.set ((rd x0 x5) : Int).toNat 1) (wrap64 (x5 + 1)))) else (none)) else (none)))) else (none)) else ((spec_l01Word.f k x4).bind fun t237 => (some (t237, true)))
def spec_BitsOf.f (k : Nat) (l0 : List Int) : Option (Int × Bool) := if 32 ≤ 35184372088832 then (spec_BitsOf.l0 k l0 (List.replicate 32 0) 0) else (none)
theorem spec_BitsOf.mono_l : ∀ k, (∀ y0 y1 y2, LeO (spec_BitsOf.l0 k y0 y1 y2) (spec_BitsOf.l0 (k + 1) y0 y1 y2))
 | 0 => fun _ _ _ r h => by simp [spec_BitsOf.l0] at h
 | k + 1 => by
  have ih0 := spec_BitsOf.mono_l k
  ·intro y0 y1 y2
   unfold spec_BitsOf.l0
   repeat' first
    | (with_reducible first | exact ih0 .. | exact spec_l01Word.mono .. | exact LeO.refl _ | exact LeO.none _ | refine LeO.ite ?_ ?_ | refine LeO.bind ?_ (fun _ => ?_))
    | exact LeO.none _ | refine LeO.ite ?_ ?_ | refine LeO.bind ?_ (fun _ => ?_)
theorem spec_BitsOf.mono : ∀ a0 k, LeO (spec_BitsOf.f k a0) (spec_BitsOf.f (k + 1) a0) := by
 intro a0 k
 have ih0 := spec_BitsOf.mono_l k
 unfold spec_BitsOf.f
 repeat' first
  | (with_reducible first | exact ih0 .. | exact spec_l01Word.mono .. | exact LeO.refl _ | exact LeO.none _ | refine LeO.ite ?_ ?_ | refine LeO.bind ?_ (fun _ => ?_))
  | exact LeO.none _ | refine LeO.ite ?_ ?_ | refine LeO.bind ?_ (fun _ => ?_)
set_option maxHeartbeats 2000000 in
set_option maxRecDepth 100000 in
theorem spec_BitsOf.calls (k : Nat) (A0 : Option Addr) (c0 : Nat) (l0 : List Int) (r1 : Int) (r2 : Bool) (w : World) (hr0 : Kd.C (Kd.int .i64) w A0 l0.length l0) (hc0 : l0.length ≤ c0) (h : spec_BitsOf.f k l0 = some (r1, r2)) :
  Calls Tryz.prog 90 #[.slice A0 l0.length c0] w fun e w' => e = .returned (.tuple #[.int .u32 r1, .bool r2]) ∧ Below w.heap.size w w' := by
 have HR0 := Aside0.mk hr0
 have HC0 := Aside0.mk hc0
 clear hr0 hc0
 have HB := Aside0.mk (Below.refl w.heap.size w)
 unfold spec_BitsOf.f at h
 have H := h
 clear h
 by_cases c2 : 32 ≤ 35184372088832
 ·rw [if_pos c2] at H
  have c2b0 := eq_true c2
  have c2b1 : decide (32 ≤ 35184372088832) = true := decide_eq_true c2
  clear c2
  obtain ⟨y228, hy228⟩ : ∃ y_ : List Int, y_ = (List.replicate 32 0) := ⟨_, rfl⟩
  rw [← hy228] at H
  try with_reducible replace H := bs H
  have Ny228 := Aside0.mk hy228
  clear hy228
  have H' := Aside0.mk H
  clear H
  go_enter Tryz.func90, Tryz.ntmps90
  go_wp2_with (first | ((with_reducible refine gate_dst (N := 6) rfl ?_); refine Kd.R_make (Kd.int .i64) _ 3 rfl (N := 6) rfl 29 _ _ rfl 32 rfl rfl Tryz.underlying29 (.int .i64 0) 8 info3 rfl (by decide) (by omega) 0 (ok := fun _ => True) (okp := fun _ => True) rfl (fun _ hk => hk) trivial (by omega) (by omega) (Below.refl _ _) (Nat.le_refl _) ?_; intro v229 w3 ho4 hb hg_ hnew_; clear hg_ hnew_; (first | rw [← Ny228.out] at ho4 | (simp only [Int.reduceToNat] at ho4; rw [← Ny228.out] at ho4)); have HO230 := Aside0.mk (Kd.R_lower ho4 (below_size bw)); replace HB := hs hb; clear hb ho4))
  go_loopg [5] k (fun kq v5 w' => ∃ (x4_1 : List Int) (x5_1 : Int), v5 = .int .i64 x5_1 ∧ Aside0 (spec_BitsOf.l0 kq l0 x4_1 x5_1 = some (r1, r2)) ∧ Aside0 (kq ≤ k) ∧ Aside0 (Kd.R (Kd.int .i64) 3 w' w.heap.size (fun _ => True) v229 x4_1) ∧ Aside0 (Below w.heap.size w w'))
  case atStart => exact ⟨(y228), (0), ev, H', ⟨Nat.le_refl _⟩, ⟨ro HO230⟩, ⟨bw⟩⟩
  case round =>
   clear H'
   try clear c2
   try clear c2b0
   try clear c2b1
   obtain ⟨x4_1, x5_1, rfl, HA, HK1, HO_4, HB⟩ := hrel
   cases gk with
   | zero => exact absurd HA.out (by simp [spec_BitsOf.l0])
   | succ k1 =>
    have H := HA.out
    clear HA
    simp only [spec_BitsOf.l0] at H
    replace H := ilt H
    rcases H with ⟨c5b0, H⟩ | ⟨c5b0, H⟩
    ·by_cases c6 : 0 ≤ x5_1
     ·rw [if_pos c6] at H
      have c6b0 : decide (0 ≤ x5_1) = true := decide_eq_true c6
      clear c6
      replace H := ilt H
      rcases H with ⟨c7b0, H⟩ | ⟨c7b0, H⟩
      ·simp only [Option.some.injEq, Prod.mk.injEq] at H
       obtain ⟨rfl, rfl⟩ := H
       have p231 : 0 ≤ (x5_1 : Int) := of_decide_eq_true as_
       have q231 : x5_1 < (l0.length : Int) := of_decide_eq_true as_
       obtain ⟨ad231, e231, hx231_0⟩ := Kd.at_int HR0.out x5_1 p231 q231
       cases e231
       replace hx231_0 := cl HB hx231_0
       replace p231 := eq_true p231
       replace q231 := eq_true q231
       go_wp2
       go_ret2
       exact ⟨rt, bw⟩
      ·replace H := igt H
       rcases H with ⟨c8b0, H⟩ | ⟨c8b0, H⟩
       ·simp only [Option.some.injEq, Prod.mk.injEq] at H
        obtain ⟨rfl, rfl⟩ := H
        have p231 : 0 ≤ (x5_1 : Int) := of_decide_eq_true as_
        have q231 : x5_1 < (l0.length : Int) := of_decide_eq_true as_
        obtain ⟨ad231, e231, hx231_0⟩ := Kd.at_int HR0.out x5_1 p231 q231
        cases e231
        replace hx231_0 := cl HB hx231_0
        replace p231 := eq_true p231
        replace q231 := eq_true q231
        have p232 : 0 ≤ (x5_1 : Int) := of_decide_eq_true as_
        have q232 : x5_1 < (l0.length : Int) := of_decide_eq_true as_
        obtain ⟨ad232, e232, hx232_0⟩ := Kd.at_int HR0.out x5_1 p232 q232
        obtain rfl : ad231 = ad232 := (by injection e232)
        replace hx232_0 := cl HB hx232_0
        replace p232 := eq_true p232
        replace q232 := eq_true q232
        go_wp2
        go_ret2
        exact ⟨rt, bw⟩
       ·by_cases c9 : 0 ≤ (rd l0 x5_1)
        ·rw [if_pos c9] at H
         have c9b0 : decide (0 ≤ (rd l0 x5_1)) = true := decide_eq_true c9
         clear c9
         by_cases c10 : (rd l0 x5_1) < (x4_1.length : Int)
         ·rw [if_pos c10] at H
          have c10b0 : decide ((rd l0 x5_1) < (x4_1.length : Int)) = true := decide_eq_true c10
          clear c10
          replace H := ieq H
          rcases H with ⟨c11b0, c11b1, H⟩ | ⟨c11, c11b0, c11b1, H⟩
          ·simp only [Option.some.injEq, Prod.mk.injEq] at H
           obtain ⟨rfl, rfl⟩ := H
           have p231 : 0 ≤ (x5_1 : Int) := of_decide_eq_true as_
           have q231 : x5_1 < (l0.length : Int) := of_decide_eq_true as_
           obtain ⟨ad231, e231, hx231_0⟩ := Kd.at_int HR0.out x5_1 p231 q231
           cases e231
           replace hx231_0 := cl HB hx231_0
           replace p231 := eq_true p231
           replace q231 := eq_true q231
           have p232 : 0 ≤ (x5_1 : Int) := of_decide_eq_true as_
           have q232 : x5_1 < (l0.length : Int) := of_decide_eq_true as_
           obtain ⟨ad232, e232, hx232_0⟩ := Kd.at_int HR0.out x5_1 p232 q232
           obtain rfl : ad231 = ad232 := (by injection e232)
           replace hx232_0 := cl HB hx232_0
           replace p232 := eq_true p232
           replace q232 := eq_true q232
           have p233 : 0 ≤ (x5_1 : Int) := of_decide_eq_true as_
           have q233 : x5_1 < (l0.length : Int) := of_decide_eq_true as_
           obtain ⟨ad233, e233, hx233_0⟩ := Kd.at_int HR0.out x5_1 p233 q233
           obtain rfl : ad231 = ad233 := (by injection e233)
           replace hx233_0 := cl HB hx233_0
           replace p233 := eq_true p233
           replace q233 := eq_true q233
           obtain ⟨Ao12, co12, eo12⟩ := Kd.R_slice HO_4.out
           subst eo12
           have p234 : 0 ≤ ((rd l0 x5_1) : Int) := of_decide_eq_true as_
           have q234 : (rd l0 x5_1) < (x4_1.length : Int) := of_decide_eq_true as_
           obtain ⟨ad234, e234, hx234_0⟩ := Kd.at_int (Kd.R_reads' HO_4.out).2.2 (rd l0 x5_1) p234 q234
           cases e234
           replace p234 := eq_true p234
           replace q234 := eq_true q234
           go_wp2
           go_ret2
           exact ⟨rt, bw⟩
          ·obtain ⟨y236, hy236⟩ : ∃ y_ : List Int, y_ = (x4_1.set ((rd l0 x5_1) : Int).toNat 1) := ⟨_, rfl⟩
           rw [← hy236] at H
           try with_reducible replace H := bs H
           have Ny236 := Aside0.mk hy236
           clear hy236
           have H' := Aside0.mk H
           clear H
           have p231 : 0 ≤ (x5_1 : Int) := of_decide_eq_true as_
           have q231 : x5_1 < (l0.length : Int) := of_decide_eq_true as_
           obtain ⟨ad231, e231, hx231_0⟩ := Kd.at_int HR0.out x5_1 p231 q231
           cases e231
           replace hx231_0 := cl HB hx231_0
           replace p231 := eq_true p231
           replace q231 := eq_true q231
           have p232 : 0 ≤ (x5_1 : Int) := of_decide_eq_true as_
           have q232 : x5_1 < (l0.length : Int) := of_decide_eq_true as_
           obtain ⟨ad232, e232, hx232_0⟩ := Kd.at_int HR0.out x5_1 p232 q232
           obtain rfl : ad231 = ad232 := (by injection e232)
           replace hx232_0 := cl HB hx232_0
           replace p232 := eq_true p232
           replace q232 := eq_true q232
           have p233 : 0 ≤ (x5_1 : Int) := of_decide_eq_true as_
           have q233 : x5_1 < (l0.length : Int) := of_decide_eq_true as_
           obtain ⟨ad233, e233, hx233_0⟩ := Kd.at_int HR0.out x5_1 p233 q233
           obtain rfl : ad231 = ad233 := (by injection e233)
           replace hx233_0 := cl HB hx233_0
           replace p233 := eq_true p233
           replace q233 := eq_true q233
           obtain ⟨Ao14, co14, eo14⟩ := Kd.R_slice HO_4.out
           subst eo14
           have p234 : 0 ≤ ((rd l0 x5_1) : Int) := of_decide_eq_true as_
           have q234 : (rd l0 x5_1) < (x4_1.length : Int) := of_decide_eq_true as_
           obtain ⟨ad234, e234, hx234_0⟩ := Kd.at_int (Kd.R_reads' HO_4.out).2.2 (rd l0 x5_1) p234 q234
           cases e234
           replace p234 := eq_true p234
           replace q234 := eq_true q234
           have p235 : 0 ≤ (x5_1 : Int) := of_decide_eq_true as_
           have q235 : x5_1 < (l0.length : Int) := of_decide_eq_true as_
           obtain ⟨ad235, e235, hx235_0⟩ := Kd.at_int HR0.out x5_1 p235 q235
           obtain rfl : ad231 = ad235 := (by injection e235)
           replace hx235_0 := cl HB hx235_0
           replace p235 := eq_true p235
           replace q235 := eq_true q235
           have p13 : 0 ≤ ((rd l0 x5_1) : Int) := of_decide_eq_true as_
           have q13 : ((rd l0 x5_1) : Int) < ((x4_1.length : Int) : Int) := of_decide_eq_true as_
           obtain ⟨go13, co13, eo13, gb13, gl13, cl13, HG13⟩ := Kd.R_form HO_4.out (by omega)
           (first | cases eo13 | (injection eo13 with ea_ en_ ec_; (first | subst ea_ | (injection ea_ with ea_; subst ea_)); subst ec_; clear en_))
           have GB13 := Aside0.mk gb13
           have GG13 := Aside0.mk HG13
           clear gb13 gl13 HG13
           (first | simp only [add_plain] at hx234_0 | skip)
           obtain ⟨hx13_0, hf13_0⟩ := Kd.R_celln 0 HO_4.out ((rd l0 x5_1) : Int) p13 q13
           replace p13 := eq_true p13
           replace q13 := eq_true q13
           have HP15 := Kd.R_putg HO_4.out ((rd l0 x5_1) : Int) 1
           go_wp2_with (first | ((with_reducible refine gate_store (t := 3) (p := 40) rfl ?_); refine store_event (t := 3) (p := 40) (v := ?vo_w16) (w1 := (wr.setCell ⟨go13, ((rd l0 x5_1) : Int).toNat, none⟩ (.int .i64 1))) ?hg ?ho ?hn ?hr ?_; (case ho => rfl); (case hg => rfl); (case hn => rfl); (case hr => first | (go_simp; done) | (go_simp; rfl)); intro w16 hw; have hg : wr.grownBy w16 (some go13) := (by rw [hw]; exact HP15.2); have hp_ : Kd.R (Kd.int .i64) 3 w16 w.heap.size (fun _ => True) (.slice (some ⟨go13, 0, none⟩) x4_1.length co14) y236 := (by rw [hw, Ny236.out]; exact HP15.1); clear HP15; replace HO_4 := Aside0.mk (hp_); replace HB := Aside0.mk ((by rw [hw]; exact below_set (HB.out) GB13.out : Below w.heap.size w w16)); clear hg hw hp_))
           go_roundg k1
           case measure => have := HK1.out; omega
           case rel => exact ⟨(y236), (wrap64 (x5_1 + 1)), ev, H', ⟨oa HK1⟩, ⟨ro HO_4⟩, ⟨bw⟩⟩
         ·rw [if_neg c10] at H
          exact absurd H (by simp)
        ·rw [if_neg c9] at H
         exact absurd H (by simp)
     ·rw [if_neg c6] at H
      exact absurd H (by simp)
    ·replace H := bn H
     obtain ⟨t237, A17, H⟩ := H
     try dsimp only at H
     simp only [Option.some.injEq, Prod.mk.injEq] at H
     obtain ⟨rfl, rfl⟩ := H
     obtain ⟨Ao18, co18, eo18⟩ := Kd.R_slice HO_4.out
     subst eo18
     go_wp2_with (first | ((with_reducible refine gf 98 ?_); refine gc Tryz.func98 (some 42) (spec_l01Word.calls _ Ao18 co18 _ _ _ (cr HO_4) ((Kd.R_reads' HO_4.out).2.1) A17.out) ?_; rintro e w' ⟨rfl, ⟨nd, rfl⟩⟩; refine ⟨_, rfl, ?_⟩))
     go_ret2
     exact ⟨rt, bw⟩
 ·rw [if_neg c2] at H
  exact absurd H (by simp)

/-! ### spec_CtlPack: function 91 -/
def spec_CtlPack.f (k : Nat) (a0_0 : Int) (a0_1 : Int) (a0_2 : Int) (a0_3 : Int) : Option (Int × Bool) := (spec_CtlOk.f k a0_0 a0_1 a0_2 a0_3).bind fun t239 => (if t239 = true then (some ((wrap64 ((wrap64 ((wrap64 ((wrap64 (a0_2)) + (wrap64 (65536 * a0_1)))) + (wrap64 (1048576 * a0_0)))) + (wrap64 (16777216 * a0_3)))) % 4294967296, true)) else (some (0, false)))
theorem spec_CtlPack.mono : ∀ a0 a1 a2 a3 k, LeO (spec_CtlPack.f k a0 a1 a2 a3) (spec_CtlPack.f (k + 1) a0 a1 a2 a3) := by
 intro a0 a1 a2 a3 k
 unfold spec_CtlPack.f
 repeat' first
  | (with_reducible first | exact spec_CtlOk.mono .. | exact LeO.refl _ | exact LeO.none _ | refine LeO.ite ?_ ?_ | refine LeO.bind ?_ (fun _ => ?_))
  | exact LeO.none _ | refine LeO.ite ?_ ?_ | refine LeO.bind ?_ (fun _ => ?_)
set_option maxHeartbeats 2000000 in
set_option maxRecDepth 100000 in
theorem spec_CtlPack.calls (k : Nat) (a0_0 : Int) (a0_1 : Int) (a0_2 : Int) (a0_3 : Int) (r1 : Int) (r2 : Bool) (w : World) (h : spec_CtlPack.f k a0_0 a0_1 a0_2 a0_3 = some (r1, r2)) :
  Calls Tryz.prog 91 #[.agg #[.int .i64 a0_0, .int .i64 a0_1, .int .u32 a0_2, .int .i64 a0_3]] w fun e w' => e = .returned (.tuple #[.int .u32 r1, .bool r2]) ∧ Below w.heap.size w w' := by
 have hu61 := Tryz.underlying61
 have HB := Aside0.mk (Below.refl w.heap.size w)
 unfold spec_CtlPack.f at h
 have H := h
 clear h
 replace H := bn H
 obtain ⟨t239, A2, H⟩ := H
 try dsimp only at H
 have HU3 := Aside0.mk H
 clear H
 go_enter Tryz.func91, Tryz.ntmps91
 go_upto_if 6 with (first | ((with_reducible refine gd 1 ?_); refine bx 1 61 #[.int .i64 a0_0, .int .i64 a0_1, .int .u32 a0_2, .int .i64 a0_3] ?_; clear HB; intro gb238 w4 hg BK238 hb GE238 HB; clear hb hg; obtain ⟨z5_0, z5_1, z5_2, z5_3⟩ := ca4 BK238; obtain ⟨f5_0, f5_1, f5_2, f5_3⟩ := fa4 BK238) | ((with_reducible refine gf 54 ?_); refine gc Tryz.func54 (some 5) (spec_CtlOk.calls _ _ _ _ _ _ _ A2.out) ?_; rintro e w6 ⟨rfl, hb⟩; refine ⟨_, rfl, ?_⟩; replace BK238 := b_ BK238 hb; replace HB := hs hb; try clear hb))
 (try refine ap ?_)
 have H := HU3.out
 clear HU3
 replace H := ib H
 rcases H with ⟨rfl, H⟩ | ⟨rfl, H⟩
 ·(try simp only [Bool.not_true, Bool.not_false])
  simp only [Option.some.injEq, Prod.mk.injEq] at H
  obtain ⟨rfl, rfl⟩ := H
  obtain ⟨z8_0, z8_1, z8_2, z8_3⟩ := ca4 BK238
  obtain ⟨f8_0, f8_1, f8_2, f8_3⟩ := fa4 BK238
  go_wp2
  go_ret2
  exact ⟨rt, bw⟩
 ·(try simp only [Bool.not_true, Bool.not_false])
  simp only [Option.some.injEq, Prod.mk.injEq] at H
  obtain ⟨rfl, rfl⟩ := H
  go_wp2
  go_ret2
  exact ⟨rt, bw⟩

/-! ### spec_Release: function 75 -/
def spec_Release.j0 : Nat → Int → Int → Int → Bool → Option (Int × Int × Bool)
 | 0, _, _, _, _ => none
 | k + 1, x0, x1, x8, x29 => if x29 = true then (some (0, 0, false)) else ((spec_CtlRead.f k x0).bind fun bt243 => (if x8 = 0 then (none) else ((spec_BitsOf.f k (([wrap64 (Int.tdiv x1 x8)] : List Int))).bind fun bt252 => (if ((bt243.2.2.1 - bt252.1) % 4294967296) = 0 then (some (0, x8, true)) else ((spec_CtlPack.f k bt243.1 bt243.2.1 ((bt243.2.2.1 - bt252.1) % 4294967296) bt243.2.2.2.1).bind fun bt254 => (some (bt254.1, x8, true)))))))
def spec_Release.f (k : Nat) (a0 : Int) (a1 : Int) : Option (Int × Int × Bool) := (spec_BlockAt.f k a0 a1).bind fun bt240 => (if bt240.2.2 = true then (spec_Release.j0 k a0 a1 bt240.2.1 (bt240.1 != a1)) else (spec_Release.j0 k a0 a1 bt240.2.1 true))
theorem spec_Release.mono_l : ∀ k, (∀ y0 y1 y2 y3, LeO (spec_Release.j0 k y0 y1 y2 y3) (spec_Release.j0 (k + 1) y0 y1 y2 y3))
 | 0 => fun _ _ _ _ r h => by simp [spec_Release.j0] at h
 | k + 1 => by
  have ih0 := spec_Release.mono_l k
  ·intro y0 y1 y2 y3
   unfold spec_Release.j0
   repeat' first
    | (with_reducible first | exact ih0 .. | exact spec_BitsOf.mono .. | exact spec_BlockAt.mono .. | exact spec_CtlPack.mono .. | exact spec_CtlRead.mono .. | exact LeO.refl _ | exact LeO.none _ | refine LeO.ite ?_ ?_ | refine LeO.bind ?_ (fun _ => ?_))
    | exact LeO.none _ | refine LeO.ite ?_ ?_ | refine LeO.bind ?_ (fun _ => ?_)
theorem spec_Release.mono : ∀ a0 a1 k, LeO (spec_Release.f k a0 a1) (spec_Release.f (k + 1) a0 a1) := by
 intro a0 a1 k
 have ih0 := spec_Release.mono_l k
 unfold spec_Release.f
 repeat' first
  | (with_reducible first | exact ih0 .. | exact spec_BitsOf.mono .. | exact spec_BlockAt.mono .. | exact spec_CtlPack.mono .. | exact spec_CtlRead.mono .. | exact LeO.refl _ | exact LeO.none _ | refine LeO.ite ?_ ?_ | refine LeO.bind ?_ (fun _ => ?_))
  | exact LeO.none _ | refine LeO.ite ?_ ?_ | refine LeO.bind ?_ (fun _ => ?_)
set_option maxHeartbeats 2000000 in
set_option maxRecDepth 100000 in
theorem spec_Release.calls (k : Nat) (a0 : Int) (a1 : Int) (r1 : Int) (r2 : Int) (r3 : Bool) (w : World) (h : spec_Release.f k a0 a1 = some (r1, r2, r3)) :
  Calls Tryz.prog 75 #[.int .u32 a0, .int .i64 a1] w fun e w' => e = .returned (.tuple #[.int .u32 r1, .int .i64 r2, .bool r3]) ∧ Below w.heap.size w w' := by
 have hu61 := Tryz.underlying61
 have HB := Aside0.mk (Below.refl w.heap.size w)
 unfold spec_Release.f at h
 have H := h
 clear h
 replace H := bn H
 obtain ⟨⟨t240, t241, t242⟩, A3, H⟩ := H
 try dsimp only at H
 have HC4 := Aside0.mk H
 clear H
 go_enter Tryz.func75, Tryz.ntmps75
 go_upto_region 2 with (first | ((with_reducible refine gf 89 ?_); refine gc Tryz.func89 (some 19) (spec_BlockAt.calls _ _ _ _ _ _ _ A3.out) ?_; rintro e w5 ⟨rfl, hb⟩; refine ⟨_, rfl, ?_⟩; replace HB := hs hb; try clear hb))
 (try refine ap ?_)
 go_cut [29] (fun v29 wc => ∃ (kq : Nat) (x29_3 : Bool), v29 = .bool x29_3 ∧ Aside0 (spec_Release.j0 kq a0 a1 t241 x29_3 = some (r1, r2, r3)) ∧ Aside0 (kq ≤ k) ∧ Aside0 (Below w.heap.size w wc))
 case first =>
  have H := HC4.out
  clear HC4
  replace H := ib H
  rcases H with ⟨rfl, H⟩ | ⟨rfl, H⟩
  ·(try simp only [Bool.not_true, Bool.not_false])
   have H' := Aside0.mk H
   clear H
   go_wp2
   go_meet
   case rel => exact ⟨_, ((t240 != a1)), ev, H', ⟨om⟩, ⟨bw⟩⟩
  ·(try simp only [Bool.not_true, Bool.not_false])
   have H' := Aside0.mk H
   clear H
   go_wp2
   go_meet
   case rel => exact ⟨_, (true), ev, H', ⟨om⟩, ⟨bw⟩⟩
 case rest =>
  clear HC4
  obtain ⟨kq, x29_3, rfl, HA, HJ3, HB⟩ := hcut
  cases kq with
  | zero => exact absurd HA.out (by simp [spec_Release.j0])
  | succ kj3 =>
   have H := HA.out
   clear HA
   simp only [spec_Release.j0] at H
   replace H := ib H
   rcases H with ⟨rfl, H⟩ | ⟨rfl, H⟩
   ·simp only [Option.some.injEq, Prod.mk.injEq] at H
    obtain ⟨rfl, rfl, rfl⟩ := H
    go_wp2
    go_ret3
    exact ⟨rt, bw⟩
   ·replace H := bn H
    obtain ⟨⟨t243, t244, t245, t246, t247⟩, A8, H⟩ := H
    try dsimp only at H
    by_cases c9 : t241 = 0
    ·rw [if_pos c9] at H
     exact absurd H (by simp)
    ·rw [if_neg c9] at H
     have c9b0 : (t241 == 0) = false := beq_eq_false_iff_ne.mpr c9
     have c9b1 : (t241 != 0) = true := bne_iff_ne.mpr c9
     obtain ⟨y249, hy249⟩ : ∃ y_ : List Int, y_ = (([wrap64 (Int.tdiv a1 t241)] : List Int)) := ⟨_, rfl⟩
     rw [← hy249] at H
     try with_reducible replace H := bs H
     have Ny249 := Aside0.mk hy249
     clear hy249
     replace H := bn H
     obtain ⟨⟨t252, t253⟩, A10, H⟩ := H
     try dsimp only at H
     have HU11 := Aside0.mk H
     clear H
     go_upto_if 50 with (first | ((with_reducible refine gf 28 ?_); refine gc Tryz.func28 (some 32) (spec_CtlRead.calls _ _ _ _ _ _ _ _ A8.out) ?_; rintro e w12 ⟨rfl, hb⟩; refine ⟨_, rfl, ?_⟩; replace HB := hs hb; try clear hb) | ((with_reducible refine gd 10 ?_); refine bx 10 61 #[.int .i64 0, .int .i64 0, .int .u32 0, .int .i64 0] ?_; clear HB; intro gb248 w13 hg BK248 hb GE248 HB; clear hb hg; obtain ⟨z14_0, z14_1, z14_2, z14_3⟩ := ca4 BK248; obtain ⟨f14_0, f14_1, f14_2, f14_3⟩ := fa4 BK248) | ((with_reducible refine gate_dst (N := 39) rfl ?_); refine Kd.R_lit (Kd.int .i64) _ 3 ?hg (N := 39) ?hd (xs := ([wrap64 (Int.tdiv a1 t241)] : List Int)) (inner := [.int .i64 (wrap64 (Int.tdiv a1 t241))]) (ok := fun _ => True) (okp := fun _ => True) ?hr ?hp (fun _ hk => hk) trivial (Below.refl _ _) (Nat.le_refl _) (by simp) ?_; (case hd => rfl); (case hg => rfl); (case hr => first | (go_simp; done) | (go_simp; rfl)); (case hp => exact (Reps.one (show Kd.M (Kd.int .i64) _ _ _ (wrap64 (Int.tdiv a1 t241)) [.int .i64 (wrap64 (Int.tdiv a1 t241))] from rfl) (Reps.none _ _))); intro v250 w15 ho16 hb hg_ hnew_; clear hg_ hnew_; (first | rw [← Ny249.out] at ho16 | (simp only [Int.reduceToNat] at ho16; rw [← Ny249.out] at ho16)); have HO251 := Aside0.mk (Kd.R_lower ho16 (below_size bw)); replace BK248 := bq BK248 #[.int .i64 t243, .int .i64 t244, .int .u32 t245, .int .i64 t246] hb; replace HB := hs hb; clear hb ho16; obtain ⟨Ao17, co17, eo17⟩ := Kd.R_slice HO251.out; subst eo17) | ((with_reducible refine gf 90 ?_); refine gc Tryz.func90 (some 40) (spec_BitsOf.calls _ Ao17 co17 _ _ _ _ (cr HO251) ((Kd.R_reads' HO251.out).2.1) A10.out) ?_; rintro e w18 ⟨rfl, hb⟩; refine ⟨_, rfl, ?_⟩; replace HO251 := Aside0.mk (Kd.R_below (ro HO251) hb); replace BK248 := b_ BK248 hb; replace HB := hs hb; try clear hb; obtain ⟨z19_0, z19_1, z19_2, z19_3⟩ := ca4 BK248; obtain ⟨f19_0, f19_1, f19_2, f19_3⟩ := fa4 BK248))
     (try refine ap ?_)
     have H := HU11.out
     clear HU11
     replace H := ieq H
     rcases H with ⟨c20b0, c20b1, H⟩ | ⟨c20, c20b0, c20b1, H⟩
     ·(first | rw [c20b0] | (simp only [i64_w, i32_w]; rw [c20b0]) | (simp only [c20b2, Bool.not_true, Bool.not_false]) | (simp only [c20b1, Bool.not_true, Bool.not_false]) | skip)
      simp only [Option.some.injEq, Prod.mk.injEq] at H
      obtain ⟨rfl, rfl, rfl⟩ := H
      go_wp2
      go_ret3
      exact ⟨rt, bw⟩
     ·(first | rw [c20b0] | (simp only [i64_w, i32_w]; rw [c20b0]) | (simp only [c20b2, Bool.not_true, Bool.not_false]) | (simp only [c20b1, Bool.not_true, Bool.not_false]) | skip)
      replace H := bn H
      obtain ⟨⟨t254, t255⟩, A21, H⟩ := H
      try dsimp only at H
      simp only [Option.some.injEq, Prod.mk.injEq] at H
      obtain ⟨rfl, rfl, rfl⟩ := H
      obtain ⟨z22_0, z22_1, z22_2, z22_3⟩ := ca4 BK248
      obtain ⟨f22_0, f22_1, f22_2, f22_3⟩ := fa4 BK248
      go_wp2_with (first | ((with_reducible refine gf 91 ?_); refine gc Tryz.func91 (some 54) (spec_CtlPack.calls _ _ _ _ _ _ _ _ A21.out) ?_; rintro e w23 ⟨rfl, hb⟩; refine ⟨_, rfl, ?_⟩; replace HO251 := Aside0.mk (Kd.R_below (rx HO251 BK248) hb); replace BK248 := bq BK248 #[.int .i64 t243, .int .i64 t244, .int .u32 ((t245 - t252) % 4294967296), .int .i64 t246] hb; replace HB := hs hb; try clear hb))
      go_ret3
      exact ⟨rt, bw⟩

/-! ### spec_l07Gives: function 53 -/
def spec_l07Gives.f (k : Nat) (a0 : Int) (a1 : Int) : Option (Bool) := (spec_Release.f k a0 a1).bind fun bt256 => ((spec_CtlRead.f k a0).bind fun bt259 => (if bt256.2.2 = true then (some true) else (if bt259.2.2.2.2 = true then (if bt259.1 = 2 then (some (a1 == 0)) else (some false)) else (some false))))
theorem spec_l07Gives.mono : ∀ a0 a1 k, LeO (spec_l07Gives.f k a0 a1) (spec_l07Gives.f (k + 1) a0 a1) := by
 intro a0 a1 k
 unfold spec_l07Gives.f
 repeat' first
  | (with_reducible first | exact spec_CtlRead.mono .. | exact spec_Release.mono .. | exact LeO.refl _ | exact LeO.none _ | refine LeO.ite ?_ ?_ | refine LeO.bind ?_ (fun _ => ?_))
  | exact LeO.none _ | refine LeO.ite ?_ ?_ | refine LeO.bind ?_ (fun _ => ?_)
set_option maxHeartbeats 2000000 in
set_option maxRecDepth 100000 in
theorem spec_l07Gives.calls (k : Nat) (a0 : Int) (a1 : Int) (r : Bool) (w : World) (h : spec_l07Gives.f k a0 a1 = some r) :
  Calls Tryz.prog 53 #[.int .u32 a0, .int .i64 a1] w fun e w' => e = .returned (.bool r) ∧ Below w.heap.size w w' := by
 have hu61 := Tryz.underlying61
 have HB := Aside0.mk (Below.refl w.heap.size w)
 unfold spec_l07Gives.f at h
 have H := h
 clear h
 replace H := bn H
 obtain ⟨⟨t256, t257, t258⟩, A3, H⟩ := H
 try dsimp only at H
 replace H := bn H
 obtain ⟨⟨t259, t260, t261, t262, t263⟩, A4, H⟩ := H
 try dsimp only at H
 replace H := ib H
 rcases H with ⟨rfl, H⟩ | ⟨rfl, H⟩
 ·obtain rfl := Option.some.inj H
  go_enter Tryz.func53, Tryz.ntmps53
  go_wp2_with (first | ((with_reducible refine gf 75 ?_); refine gc Tryz.func75 (some 13) (spec_Release.calls _ _ _ _ _ _ _ A3.out) ?_; rintro e w6 ⟨rfl, hb⟩; refine ⟨_, rfl, ?_⟩; replace HB := hs hb; try clear hb) | ((with_reducible refine gf 28 ?_); refine gc Tryz.func28 (some 19) (spec_CtlRead.calls _ _ _ _ _ _ _ _ A4.out) ?_; rintro e w7 ⟨rfl, hb⟩; refine ⟨_, rfl, ?_⟩; replace HB := hs hb; try clear hb) | ((with_reducible refine gd 8 ?_); refine bx 8 61 #[.int .i64 0, .int .i64 0, .int .u32 0, .int .i64 0] ?_; clear HB; intro gb264 w8 hg BK264 hb GE264 HB; clear hb hg; obtain ⟨z9_0, z9_1, z9_2, z9_3⟩ := ca4 BK264; obtain ⟨f9_0, f9_1, f9_2, f9_3⟩ := fa4 BK264))
  go_ret
  exact ⟨rt, bw⟩
 ·replace H := ib H
  rcases H with ⟨rfl, H⟩ | ⟨rfl, H⟩
  ·replace H := ieq H
   rcases H with ⟨c11b0, c11b1, H⟩ | ⟨c11, c11b0, c11b1, H⟩
   ·obtain rfl := Option.some.inj H
    go_enter Tryz.func53, Tryz.ntmps53
    go_wp2_with (first | ((with_reducible refine gf 75 ?_); refine gc Tryz.func75 (some 13) (spec_Release.calls _ _ _ _ _ _ _ A3.out) ?_; rintro e w12 ⟨rfl, hb⟩; refine ⟨_, rfl, ?_⟩; replace HB := hs hb; try clear hb) | ((with_reducible refine gf 28 ?_); refine gc Tryz.func28 (some 19) (spec_CtlRead.calls _ _ _ _ _ _ _ _ A4.out) ?_; rintro e w13 ⟨rfl, hb⟩; refine ⟨_, rfl, ?_⟩; replace HB := hs hb; try clear hb) | ((with_reducible refine gd 8 ?_); refine bx 8 61 #[.int .i64 0, .int .i64 0, .int .u32 0, .int .i64 0] ?_; clear HB; intro gb264 w14 hg BK264 hb GE264 HB; clear hb hg; obtain ⟨z15_0, z15_1, z15_2, z15_3⟩ := ca4 BK264; obtain ⟨f15_0, f15_1, f15_2, f15_3⟩ := fa4 BK264))
    go_ret
    exact ⟨rt, bw⟩
   ·obtain rfl := Option.some.inj H
    go_enter Tryz.func53, Tryz.ntmps53
    go_wp2_with (first | ((with_reducible refine gf 75 ?_); refine gc Tryz.func75 (some 13) (spec_Release.calls _ _ _ _ _ _ _ A3.out) ?_; rintro e w16 ⟨rfl, hb⟩; refine ⟨_, rfl, ?_⟩; replace HB := hs hb; try clear hb) | ((with_reducible refine gf 28 ?_); refine gc Tryz.func28 (some 19) (spec_CtlRead.calls _ _ _ _ _ _ _ _ A4.out) ?_; rintro e w17 ⟨rfl, hb⟩; refine ⟨_, rfl, ?_⟩; replace HB := hs hb; try clear hb) | ((with_reducible refine gd 8 ?_); refine bx 8 61 #[.int .i64 0, .int .i64 0, .int .u32 0, .int .i64 0] ?_; clear HB; intro gb264 w18 hg BK264 hb GE264 HB; clear hb hg; obtain ⟨z19_0, z19_1, z19_2, z19_3⟩ := ca4 BK264; obtain ⟨f19_0, f19_1, f19_2, f19_3⟩ := fa4 BK264))
    go_ret
    exact ⟨rt, bw⟩
  ·obtain rfl := Option.some.inj H
   go_enter Tryz.func53, Tryz.ntmps53
   go_wp2_with (first | ((with_reducible refine gf 75 ?_); refine gc Tryz.func75 (some 13) (spec_Release.calls _ _ _ _ _ _ _ A3.out) ?_; rintro e w20 ⟨rfl, hb⟩; refine ⟨_, rfl, ?_⟩; replace HB := hs hb; try clear hb) | ((with_reducible refine gf 28 ?_); refine gc Tryz.func28 (some 19) (spec_CtlRead.calls _ _ _ _ _ _ _ _ A4.out) ?_; rintro e w21 ⟨rfl, hb⟩; refine ⟨_, rfl, ?_⟩; replace HB := hs hb; try clear hb) | ((with_reducible refine gd 8 ?_); refine bx 8 61 #[.int .i64 0, .int .i64 0, .int .u32 0, .int .i64 0] ?_; clear HB; intro gb264 w22 hg BK264 hb GE264 HB; clear hb hg; obtain ⟨z23_0, z23_1, z23_2, z23_3⟩ := ca4 BK264; obtain ⟨f23_0, f23_1, f23_2, f23_3⟩ := fa4 BK264))
   go_ret
   exact ⟨rt, bw⟩

end Go.Proofs.YtfhcnnkeokjfpaaGreatDoor.PO1
