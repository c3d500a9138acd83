/- What functions of the program compute, each as a Lean function, and that the run comes to just that. Conditions: none. -/
import Derived.Test.YtfhcnnkeokjfpaaDoorTM1
import Derived.Test.YtfhcnnkeokjfpaaDoorPM1x0
import Derived.Test.YtfhcnnkeokjfpaaDoorPM1x2
import Derived.Test.YtfhcnnkeokjfpaaDoorPM1x1
namespace Go.Proofs.YtfhcnnkeokjfpaaDoor.PM1
open Go.RowKit Go.Proofs.YtfhcnnkeokjfpaaDoorW.PrintWords Go.Proofs.YtfhcnnkeokjfpaaDoorW.PrintLast Go.Proofs.YtfhcnnkeokjfpaaDoorW.PrintMore Go.Proofs.YtfhcnnkeokjfpaaDoor.T
attribute [local go_sem] max2_int min2_int max_two min_two max_three min_three max_four min_four   -- for this text's walks alone
set_option linter.unusedVariables false
set_option linter.unusedSimpArgs false

/-! ### laws_eqUint32S: function 97 -/
def laws_eqUint32S.l0 : Nat → List Int → List Int → Int → Option (Bool)
 | 0, _, _, _ => none
 | k + 1, x0, x1, x5 => if x5 < (x0.length : Int) then (if 0 ≤ x5 then (if x5 < (x1.length : Int) then (if (rd x0 x5) = (rd x1 x5) then (laws_eqUint32S.l0 k x0 x1 (wrap64 (x5 + 1))) else (some false)) else (none)) else (none)) else (some true)
def laws_eqUint32S.f (k : Nat) (l0 : List Int) (l1 : List Int) : Option (Bool) := if (l0.length : Int) = (l1.length : Int) then (laws_eqUint32S.l0 k l0 l1 0) else (some false)
theorem laws_eqUint32S.mono_l : ∀ k, (∀ y0 y1 y2, LeO (laws_eqUint32S.l0 k y0 y1 y2) (laws_eqUint32S.l0 (k + 1) y0 y1 y2))
 | 0 => fun _ _ _ r h => by simp [laws_eqUint32S.l0] at h
 | k + 1 => by
  have ih0 := laws_eqUint32S.mono_l k
  ·intro y0 y1 y2
   unfold laws_eqUint32S.l0
   repeat' first
    | (with_reducible first | exact ih0 .. | exact LeO.refl _ | exact LeO.none _ | refine LeO.ite ?_ ?_ | refine LeO.bind ?_ (fun _ => ?_))
    | exact LeO.none _ | refine LeO.ite ?_ ?_ | refine LeO.bind ?_ (fun _ => ?_)
theorem laws_eqUint32S.mono : ∀ a0 a1 k, LeO (laws_eqUint32S.f k a0 a1) (laws_eqUint32S.f (k + 1) a0 a1) := by
 intro a0 a1 k
 have ih0 := laws_eqUint32S.mono_l k
 unfold laws_eqUint32S.f
 repeat' first
  | (with_reducible first | exact ih0 .. | exact LeO.refl _ | exact LeO.none _ | refine LeO.ite ?_ ?_ | refine LeO.bind ?_ (fun _ => ?_))
  | exact LeO.none _ | refine LeO.ite ?_ ?_ | refine LeO.bind ?_ (fun _ => ?_)
set_option maxHeartbeats 2000000 in
set_option maxRecDepth 100000 in
theorem laws_eqUint32S.calls (k : Nat) (A0 : Option Addr) (c0 : Nat) (l0 : List Int) (A1 : Option Addr) (c1 : Nat) (l1 : List Int) (r : Bool) (w : World) (hr0 : Kd.C (Kd.int .u32) w A0 l0.length l0) (hc0 : l0.length ≤ c0) (hr1 : Kd.C (Kd.int .u32) w A1 l1.length l1) (hc1 : l1.length ≤ c1) (h : laws_eqUint32S.f k l0 l1 = some r) :
  Calls Tryd.prog 97 #[.slice A0 l0.length c0, .slice A1 l1.length c1] w fun e w' => e = .returned (.bool r) ∧ Drawn0 w w' := by
 have HR0 := Aside0.mk hr0
 have HC0 := Aside0.mk hc0
 clear hr0 hc0
 have HR1 := Aside0.mk hr1
 have HC1 := Aside0.mk hc1
 clear hr1 hc1
 unfold laws_eqUint32S.f at h
 have H := h
 clear h
 by_cases c3 : (l0.length : Int) = (l1.length : Int)
 ·rw [if_pos c3] at H
  have c3b0 : ((l0.length : Int) == (l1.length : Int)) = true := beq_iff_eq.mpr c3
  have c3b1 : ((l0.length : Int) != (l1.length : Int)) = false := bne_eq_false_iff_eq.mpr c3
  have c3b2 : (l0.length == l1.length) = true := by first | simpa using c3 | (simp at c3 ⊢; omega)
  clear c3
  have H' := Aside0.mk H
  clear H
  go_enter Tryd.func97, Tryd.ntmps97
  go_wp2
  repeat (go_quiet (fail); try go_wp2)
  go_loopg [5] k (fun kq v5 w' => ∃ (x5_1 : Int), v5 = .int .i64 x5_1 ∧ Aside0 (laws_eqUint32S.l0 kq l0 l1 x5_1 = some r) ∧ Aside0 (kq ≤ k) ∧ Drawn0 w w')
  case atStart => exact ⟨(0), ev, H', ⟨Nat.le_refl _⟩, dr⟩
  case round =>
   clear H'
   try clear c1
   try clear c3
   try clear c3b0
   try clear c3b1
   try clear c3b2
   obtain ⟨x5_1, rfl, HA, HK1, ⟨m1, rfl⟩⟩ := hrel
   cases gk with
   | zero => exact absurd HA.out (by simp [laws_eqUint32S.l0])
   | succ k1 =>
    have H := HA.out
    clear HA
    simp only [laws_eqUint32S.l0] at H
    replace H := ilt H
    rcases H with ⟨c4b0, H⟩ | ⟨c4b0, H⟩
    ·by_cases c5 : 0 ≤ x5_1
     ·rw [if_pos c5] at H
      have c5b0 : decide (0 ≤ x5_1) = true := decide_eq_true c5
      clear c5
      by_cases c6 : x5_1 < (l1.length : Int)
      ·rw [if_pos c6] at H
       have c6b0 : decide (x5_1 < (l1.length : Int)) = true := decide_eq_true c6
       clear c6
       replace H := ieq H
       rcases H with ⟨c7b0, c7b1, H⟩ | ⟨c7, c7b0, c7b1, H⟩
       ·have H' := Aside0.mk H
        clear H
        have p784 : 0 ≤ (x5_1 : Int) := of_decide_eq_true as_
        have q784 : x5_1 < (l0.length : Int) := of_decide_eq_true as_
        obtain ⟨ad784, e784, hx784_0⟩ := Kd.at_int HR0.out x5_1 p784 q784
        cases e784
        replace p784 := eq_true p784
        replace q784 := eq_true q784
        have p785 : 0 ≤ (x5_1 : Int) := of_decide_eq_true as_
        have q785 : x5_1 < (l1.length : Int) := of_decide_eq_true as_
        obtain ⟨ad785, e785, hx785_0⟩ := Kd.at_int HR1.out x5_1 p785 q785
        cases e785
        replace p785 := eq_true p785
        replace q785 := eq_true q785
        go_wp2
        repeat (go_quiet (fail); try go_wp2)
        go_roundg k1
        case measure => have := HK1.out; omega
        case rel => exact ⟨(wrap64 (x5_1 + 1)), ev, H', ⟨oa HK1⟩, dr⟩
       ·obtain rfl := Option.some.inj H
        have p784 : 0 ≤ (x5_1 : Int) := of_decide_eq_true as_
        have q784 : x5_1 < (l0.length : Int) := of_decide_eq_true as_
        obtain ⟨ad784, e784, hx784_0⟩ := Kd.at_int HR0.out x5_1 p784 q784
        cases e784
        replace p784 := eq_true p784
        replace q784 := eq_true q784
        have p785 : 0 ≤ (x5_1 : Int) := of_decide_eq_true as_
        have q785 : x5_1 < (l1.length : Int) := of_decide_eq_true as_
        obtain ⟨ad785, e785, hx785_0⟩ := Kd.at_int HR1.out x5_1 p785 q785
        cases e785
        replace p785 := eq_true p785
        replace q785 := eq_true q785
        go_wp2
        repeat (go_quiet (fail); try go_wp2)
        go_ret
        exact ⟨ev, dr⟩
      ·rw [if_neg c6] at H
       exact absurd H (by simp)
     ·rw [if_neg c5] at H
      exact absurd H (by simp)
    ·obtain rfl := Option.some.inj H
     go_wp2
     repeat (go_quiet (fail); try go_wp2)
     go_ret
     exact ⟨ev, dr⟩
 ·rw [if_neg c3] at H
  have c3b0 : ((l0.length : Int) == (l1.length : Int)) = false := beq_eq_false_iff_ne.mpr c3
  have c3b1 : ((l0.length : Int) != (l1.length : Int)) = true := bne_iff_ne.mpr c3
  have c3b2 : (l0.length == l1.length) = false := by first | simpa using c3 | (simp at c3 ⊢; omega)
  obtain rfl := Option.some.inj H
  go_enter Tryd.func97, Tryd.ntmps97
  go_wp2
  repeat (go_quiet (fail); try go_wp2)
  go_ret
  exact ⟨ev, dr⟩

/-! ### laws_eqMem: function 59 -/
def laws_eqMem.f (k : Nat) (l0_0 : List Int) (l1_0 : List Int) : Option (Bool) := (laws_eqUint32S.f k l0_0 l1_0).bind fun t788 => (if t788 = true then (some true) else (some false))
theorem laws_eqMem.mono : ∀ a0 a1 k, LeO (laws_eqMem.f k a0 a1) (laws_eqMem.f (k + 1) a0 a1) := by
 intro a0 a1 k
 unfold laws_eqMem.f
 repeat' first
  | (with_reducible first | exact laws_eqUint32S.mono .. | exact LeO.refl _ | exact LeO.none _ | refine LeO.ite ?_ ?_ | refine LeO.bind ?_ (fun _ => ?_))
  | exact LeO.none _ | refine LeO.ite ?_ ?_ | refine LeO.bind ?_ (fun _ => ?_)
set_option maxHeartbeats 2000000 in
set_option maxRecDepth 100000 in
theorem laws_eqMem.calls (k : Nat) (A0_0 : Option Addr) (c0_0 : Nat) (l0_0 : List Int) (A1_0 : Option Addr) (c1_0 : Nat) (l1_0 : List Int) (r : Bool) (w : World) (hr0_0 : Kd.C (Kd.int .u32) w A0_0 l0_0.length l0_0) (hc0_0 : l0_0.length ≤ c0_0) (hr1_0 : Kd.C (Kd.int .u32) w A1_0 l1_0.length l1_0) (hc1_0 : l1_0.length ≤ c1_0) (h : laws_eqMem.f k l0_0 l1_0 = some r) :
  Calls Tryd.prog 59 #[.agg #[.slice A0_0 l0_0.length c0_0], .agg #[.slice A1_0 l1_0.length c1_0]] w fun e w' => e = .returned (.bool r) ∧ Below w.heap.size w w' := by
 have hu53 := Tryd.underlying53
 have HR0_0 := Aside0.mk hr0_0
 have HC0_0 := Aside0.mk hc0_0
 clear hr0_0 hc0_0
 have HR1_0 := Aside0.mk hr1_0
 have HC1_0 := Aside0.mk hc1_0
 clear hr1_0 hc1_0
 have HB := Aside0.mk (Below.refl w.heap.size w)
 unfold laws_eqMem.f at h
 have H := h
 clear h
 replace H := bn H
 obtain ⟨t788, A3, H⟩ := H
 try dsimp only at H
 have HU4 := Aside0.mk H
 clear H
 go_enter Tryd.func59, Tryd.ntmps59
 go_upto_if 10 with (first | ((with_reducible refine gd 2 ?_); refine bx 2 53 #[.slice A0_0 l0_0.length c0_0] ?_; clear HB; intro gb786 w5 hg BK786 hb GE786 HB; clear hb hg) | ((with_reducible refine gd 3 ?_); refine bx 3 53 #[.slice A1_0 l1_0.length c1_0] ?_; clear HB; intro gb787 w6 hg BK787 hb GE787 HB; have NB786_787 := nl BK786 hg; have NB787_786 := ng BK786 hg; replace BK786 := b_ BK786 hb; clear hb hg; have hnb7 := NB786_787.out; have hnc7 := NB787_786.out; have z8_0 := ca1 BK786; have f8_0 := blk_frozen BK786.out 0; have z9_0 := ca1 BK787; have f9_0 := blk_frozen BK787.out 0) | ((with_reducible refine gf 97 ?_); refine gc Tryd.func97 (some 9) (laws_eqUint32S.calls _ A0_0 c0_0 _ A1_0 c1_0 _ _ _ (cb HR0_0) HC0_0.out (cb HR1_0) HC1_0.out A3.out) ?_; rintro e w' ⟨rfl, ⟨nd, rfl⟩⟩; refine ⟨_, rfl, ?_⟩))
 (try refine ap ?_)
 have H := HU4.out
 clear HU4
 replace H := ib H
 rcases H with ⟨rfl, H⟩ | ⟨rfl, H⟩
 ·(try simp only [Bool.not_true, Bool.not_false])
  obtain rfl := Option.some.inj H
  go_wp2
  go_ret
  exact ⟨rt, bw⟩
 ·(try simp only [Bool.not_true, Bool.not_false])
  obtain rfl := Option.some.inj H
  go_wp2
  go_ret
  exact ⟨rt, bw⟩

/-! ### laws_eqWarpS: function 60 -/
def laws_eqWarpS.l0 : Nat → List (S28) → List (S28) → Int → Option (Bool)
 | 0, _, _, _ => none
 | k + 1, x0, x1, x5 => if x5 < (x0.length : Int) then (if 0 ≤ x5 then (if x5 < (x1.length : Int) then ((laws_eqWarp.f k ((rd_T28 x0 x5).f0) ((rd_T28 x0 x5).f1) ((rd_T28 x0 x5).f2) ((rd_T28 x0 x5).f3) ((rd_T28 x0 x5).f4) ((rd_T28 x0 x5).f5) ((rd_T28 x0 x5).f6) ((rd_T28 x0 x5).f7) ((rd_T28 x1 x5).f0) ((rd_T28 x1 x5).f1) ((rd_T28 x1 x5).f2) ((rd_T28 x1 x5).f3) ((rd_T28 x1 x5).f4) ((rd_T28 x1 x5).f5) ((rd_T28 x1 x5).f6) ((rd_T28 x1 x5).f7)).bind fun t791 => (if t791 = true then (laws_eqWarpS.l0 k x0 x1 (wrap64 (x5 + 1))) else (some false))) else (none)) else (none)) else (some true)
def laws_eqWarpS.f (k : Nat) (l0 : List (S28)) (l1 : List (S28)) : Option (Bool) := if (l0.length : Int) = (l1.length : Int) then (laws_eqWarpS.l0 k l0 l1 0) else (some false)
theorem laws_eqWarpS.mono_l : ∀ k, (∀ y0 y1 y2, LeO (laws_eqWarpS.l0 k y0 y1 y2) (laws_eqWarpS.l0 (k + 1) y0 y1 y2))
 | 0 => fun _ _ _ r h => by simp [laws_eqWarpS.l0] at h
 | k + 1 => by
  have ih0 := laws_eqWarpS.mono_l k
  ·intro y0 y1 y2
   unfold laws_eqWarpS.l0
   repeat' first
    | (with_reducible first | exact ih0 .. | exact laws_eqWarp.mono .. | exact LeO.refl _ | exact LeO.none _ | refine LeO.ite ?_ ?_ | refine LeO.bind ?_ (fun _ => ?_))
    | exact LeO.none _ | refine LeO.ite ?_ ?_ | refine LeO.bind ?_ (fun _ => ?_)
theorem laws_eqWarpS.mono : ∀ a0 a1 k, LeO (laws_eqWarpS.f k a0 a1) (laws_eqWarpS.f (k + 1) a0 a1) := by
 intro a0 a1 k
 have ih0 := laws_eqWarpS.mono_l k
 unfold laws_eqWarpS.f
 repeat' first
  | (with_reducible first | exact ih0 .. | exact laws_eqWarp.mono .. | exact LeO.refl _ | exact LeO.none _ | refine LeO.ite ?_ ?_ | refine LeO.bind ?_ (fun _ => ?_))
  | exact LeO.none _ | refine LeO.ite ?_ ?_ | refine LeO.bind ?_ (fun _ => ?_)
def laws_eqWarpS.T6 : Bool × List (List Nat × List Nat) := (true, [([], []), ([], []), ([0, 1], [0, 1]), ([2], [2]), ([], []), ([], []), ([4, 5], [4, 5]), ([6], [6]), ([3, 7], [3, 7]), ([8], [8])])
def laws_eqWarpS.B6 : List Nat := [0, 0, 3, 7, 0, 0, 48, 112, 255, 511]
theorem laws_eqWarpS.tab6 : rtab .any (opsOf Tryd.f60 6) = laws_eqWarpS.T6 := kr
theorem laws_eqWarpS.bits6 : waitsOk laws_eqWarpS.T6.2 laws_eqWarpS.B6 = true := kr
set_option maxHeartbeats 2000000 in
set_option maxRecDepth 100000 in
theorem laws_eqWarpS.calls (k : Nat) (A0 : Option Addr) (c0 : Nat) (l0 : List (S28)) (A1 : Option Addr) (c1 : Nat) (l1 : List (S28)) (r : Bool) (w : World) (hr0 : Kd.C k28 w A0 l0.length l0) (hc0 : l0.length ≤ c0) (hr1 : Kd.C k28 w A1 l1.length l1) (hc1 : l1.length ≤ c1) (h : laws_eqWarpS.f k l0 l1 = some r) :
  Calls Tryd.prog 60 #[.slice A0 l0.length c0, .slice A1 l1.length c1] w fun e w' => e = .returned (.bool r) ∧ Below w.heap.size w w' := by
 have hu28 := Tryd.underlying28
 have HR0 := Aside0.mk hr0
 have HC0 := Aside0.mk hc0
 clear hr0 hc0
 have HR1 := Aside0.mk hr1
 have HC1 := Aside0.mk hc1
 clear hr1 hc1
 have HB := Aside0.mk (Below.refl w.heap.size w)
 unfold laws_eqWarpS.f at h
 have H := h
 clear h
 by_cases c3 : (l0.length : Int) = (l1.length : Int)
 ·rw [if_pos c3] at H
  have c3b0 : ((l0.length : Int) == (l1.length : Int)) = true := beq_iff_eq.mpr c3
  have c3b1 : ((l0.length : Int) != (l1.length : Int)) = false := bne_eq_false_iff_eq.mpr c3
  have c3b2 : (l0.length == l1.length) = true := by first | simpa using c3 | (simp at c3 ⊢; omega)
  clear c3
  have H' := Aside0.mk H
  clear H
  go_enter Tryd.func60, Tryd.ntmps60
  go_wp2
  go_loopg [5] k (fun kq v5 w' => ∃ (x5_1 : Int), v5 = .int .i64 x5_1 ∧ Aside0 (laws_eqWarpS.l0 kq l0 l1 x5_1 = some r) ∧ Aside0 (kq ≤ k) ∧ Aside0 (Below w.heap.size w w'))
  case atStart => exact ⟨(0), ev, H', ⟨Nat.le_refl _⟩, ⟨bw⟩⟩
  case round =>
   clear H'
   try clear c1
   try clear c3
   try clear c3b0
   try clear c3b1
   try clear c3b2
   obtain ⟨x5_1, rfl, HA, HK1, HB⟩ := hrel
   cases gk with
   | zero => exact absurd HA.out (by simp [laws_eqWarpS.l0])
   | succ k1 =>
    have H := HA.out
    clear HA
    simp only [laws_eqWarpS.l0] at H
    replace H := ilt H
    rcases H with ⟨c4b0, H⟩ | ⟨c4b0, H⟩
    ·by_cases c5 : 0 ≤ x5_1
     ·rw [if_pos c5] at H
      have c5b0 : decide (0 ≤ x5_1) = true := decide_eq_true c5
      clear c5
      by_cases c6 : x5_1 < (l1.length : Int)
      ·rw [if_pos c6] at H
       have c6b0 : decide (x5_1 < (l1.length : Int)) = true := decide_eq_true c6
       clear c6
       replace H := bn H
       obtain ⟨t791, A7, H⟩ := H
       try dsimp only at H
       have HU8 := Aside0.mk H
       clear H
       try go_wp2
       replace HB := hd HB
       have p789 : 0 ≤ (x5_1 : Int) := of_decide_eq_true as_
       have q789 : x5_1 < (l0.length : Int) := of_decide_eq_true as_
       obtain ⟨ad789, A789_1, c789_1, A789_2, c789_2, e789, hx789_0, hx789_1, hx789_2, hx789_3, hx789_4, hx789_5, hx789_6, hx789_7, hl789_1, hi789_1, hl789_2, hi789_2⟩ := at_T28 HR0.out x5_1 p789 q789
       have hw789_7 := hx789_7
       have hw789_6 := hx789_6
       have hw789_5 := hx789_5
       have hw789_4 := hx789_4
       have hw789_3 := hx789_3
       have hw789_2 := hx789_2
       have hw789_1 := hx789_1
       have hw789_0 := hx789_0
       cases e789
       replace hx789_0 := cl HB hx789_0
       replace hx789_1 := cl HB hx789_1
       replace hx789_2 := cl HB hx789_2
       replace hx789_3 := cl HB hx789_3
       replace hx789_4 := cl HB hx789_4
       replace hx789_5 := cl HB hx789_5
       replace hx789_6 := cl HB hx789_6
       replace hx789_7 := cl HB hx789_7
       have HR789_1 := Aside0.mk hi789_1
       have HC789_1 := Aside0.mk hl789_1
       clear hi789_1 hl789_1
       have HR789_2 := Aside0.mk hi789_2
       have HC789_2 := Aside0.mk hl789_2
       clear hi789_2 hl789_2
       replace p789 := eq_true p789
       replace q789 := eq_true q789
       have p790 : 0 ≤ (x5_1 : Int) := of_decide_eq_true as_
       have q790 : x5_1 < (l1.length : Int) := of_decide_eq_true as_
       obtain ⟨ad790, A790_1, c790_1, A790_2, c790_2, e790, hx790_0, hx790_1, hx790_2, hx790_3, hx790_4, hx790_5, hx790_6, hx790_7, hl790_1, hi790_1, hl790_2, hi790_2⟩ := at_T28 HR1.out x5_1 p790 q790
       have hw790_7 := hx790_7
       have hw790_6 := hx790_6
       have hw790_5 := hx790_5
       have hw790_4 := hx790_4
       have hw790_3 := hx790_3
       have hw790_2 := hx790_2
       have hw790_1 := hx790_1
       have hw790_0 := hx790_0
       cases e790
       replace hx790_0 := cl HB hx790_0
       replace hx790_1 := cl HB hx790_1
       replace hx790_2 := cl HB hx790_2
       replace hx790_3 := cl HB hx790_3
       replace hx790_4 := cl HB hx790_4
       replace hx790_5 := cl HB hx790_5
       replace hx790_6 := cl HB hx790_6
       replace hx790_7 := cl HB hx790_7
       have HR790_1 := Aside0.mk hi790_1
       have HC790_1 := Aside0.mk hl790_1
       clear hi790_1 hl790_1
       have HR790_2 := Aside0.mk hi790_2
       have HC790_2 := Aside0.mk hl790_2
       clear hi790_2 hl790_2
       replace p790 := eq_true p790
       replace q790 := eq_true q790
       refine st 10 (fun w' => w'.cell? (ad789.add ((x5_1).toNat * 8)) = some (.int .i64 ((rd_T28 l0 x5_1).f0)) ∧ w'.cell? ⟨(ad789.add ((x5_1).toNat * 8)).block, (ad789.add ((x5_1).toNat * 8)).off + 1, none⟩ = some (.slice A789_1 ((rd_T28 l0 x5_1).f1).length c789_1) ∧ w'.cell? ⟨(ad789.add ((x5_1).toNat * 8)).block, (ad789.add ((x5_1).toNat * 8)).off + 2, none⟩ = some (.slice A789_2 ((rd_T28 l0 x5_1).f2).length c789_2) ∧ w'.cell? ⟨(ad789.add ((x5_1).toNat * 8)).block, (ad789.add ((x5_1).toNat * 8)).off + 3, none⟩ = some (.int .u32 ((rd_T28 l0 x5_1).f3)) ∧ w'.cell? ⟨(ad789.add ((x5_1).toNat * 8)).block, (ad789.add ((x5_1).toNat * 8)).off + 4, none⟩ = some (.int .i64 ((rd_T28 l0 x5_1).f4)) ∧ w'.cell? ⟨(ad789.add ((x5_1).toNat * 8)).block, (ad789.add ((x5_1).toNat * 8)).off + 5, none⟩ = some (.int .i64 ((rd_T28 l0 x5_1).f5)) ∧ w'.cell? ⟨(ad789.add ((x5_1).toNat * 8)).block, (ad789.add ((x5_1).toNat * 8)).off + 6, none⟩ = some (.int .i64 ((rd_T28 l0 x5_1).f6)) ∧ w'.cell? ⟨(ad789.add ((x5_1).toNat * 8)).block, (ad789.add ((x5_1).toNat * 8)).off + 7, none⟩ = some (.int .u32 ((rd_T28 l0 x5_1).f7)) ∧ w'.cell? (ad790.add ((x5_1).toNat * 8)) = some (.int .i64 ((rd_T28 l1 x5_1).f0)) ∧ w'.cell? ⟨(ad790.add ((x5_1).toNat * 8)).block, (ad790.add ((x5_1).toNat * 8)).off + 1, none⟩ = some (.slice A790_1 ((rd_T28 l1 x5_1).f1).length c790_1) ∧ w'.cell? ⟨(ad790.add ((x5_1).toNat * 8)).block, (ad790.add ((x5_1).toNat * 8)).off + 2, none⟩ = some (.slice A790_2 ((rd_T28 l1 x5_1).f2).length c790_2) ∧ w'.cell? ⟨(ad790.add ((x5_1).toNat * 8)).block, (ad790.add ((x5_1).toNat * 8)).off + 3, none⟩ = some (.int .u32 ((rd_T28 l1 x5_1).f3)) ∧ w'.cell? ⟨(ad790.add ((x5_1).toNat * 8)).block, (ad790.add ((x5_1).toNat * 8)).off + 4, none⟩ = some (.int .i64 ((rd_T28 l1 x5_1).f4)) ∧ w'.cell? ⟨(ad790.add ((x5_1).toNat * 8)).block, (ad790.add ((x5_1).toNat * 8)).off + 5, none⟩ = some (.int .i64 ((rd_T28 l1 x5_1).f5)) ∧ w'.cell? ⟨(ad790.add ((x5_1).toNat * 8)).block, (ad790.add ((x5_1).toNat * 8)).off + 6, none⟩ = some (.int .i64 ((rd_T28 l1 x5_1).f6)) ∧ w'.cell? ⟨(ad790.add ((x5_1).toNat * 8)).block, (ad790.add ((x5_1).toNat * 8)).off + 7, none⟩ = some (.int .u32 ((rd_T28 l1 x5_1).f7))) [] ⟨(cl HB hw789_0 :), (cl HB hw789_1 :), (cl HB hw789_2 :), (cl HB hw789_3 :), (cl HB hw789_4 :), (cl HB hw789_5 :), (cl HB hw789_6 :), (cl HB hw789_7 :), (cl HB hw790_0 :), (cl HB hw790_1 :), (cl HB hw790_2 :), (cl HB hw790_3 :), (cl HB hw790_4 :), (cl HB hw790_5 :), (cl HB hw790_6 :), (cl HB hw790_7 :)⟩ laws_eqWarpS.tab6 laws_eqWarpS.bits6 ?_; intro hHeld HT_ HW_
       generalize wr.drew = w9 at HB HR789_1 HR789_2 HR790_1 HR790_2 hx789_0 hx789_1 hx789_2 hx789_3 hx789_4 hx789_5 hx789_6 hx789_7 hx790_0 hx790_1 hx790_2 hx790_3 hx790_4 hx790_5 hx790_6 hx790_7 hHeld ⊢
       refine pu 0 17 (bl 10 1) ?_
       refine pu 1 18 (bl 10 3) ?_
       refine pu 2 19 (bl 10 7) ?_
       refine pu 4 21 (bl 10 23) ?_
       refine pu 5 22 (bl 10 55) ?_
       refine pu 6 23 (bl 10 119) ?_
       refine tk 3 20 (bl 10 127) ?_
       refine tk 7 24 (bl 10 255) ?_
       refine on_ 8 (some 25) (bl 10 511) (fun K hK => ?_)
       refine gq Tryd.func12 (laws_eqWarp.calls _ _ A789_1 c789_1 _ A789_2 c789_2 _ _ _ _ _ _ _ A790_1 c790_1 _ A790_2 c790_2 _ _ _ _ _ _ _ _ (cb HR789_1) HC789_1.out (cb HR789_2) HC789_2.out (cb HR790_1) HC790_1.out (cb HR790_2) HC790_2.out A7.out) ?_
       rintro e w10 ⟨rfl, hb⟩
       refine ⟨_, rfl, ?_⟩
       replace HB := hs hb
       (try clear hb)
       refine hK.out _ _ ⟨(cl HB hw789_0 :), (cl HB hw789_1 :), (cl HB hw789_2 :), (cl HB hw789_3 :), (cl HB hw789_4 :), (cl HB hw789_5 :), (cl HB hw789_6 :), (cl HB hw789_7 :), (cl HB hw790_0 :), (cl HB hw790_1 :), (cl HB hw790_2 :), (cl HB hw790_3 :), (cl HB hw790_4 :), (cl HB hw790_5 :), (cl HB hw790_6 :), (cl HB hw790_7 :)⟩ (fun hHeld => ?_)
       clear hK K
       refine nm ?_
       refine pu 9 26 (bl 10 1023) ?_
       refine dn ?_ _
       go_upto_if 26 with (fail)
       have H := HU8.out
       clear HU8
       replace H := ib H
       rcases H with ⟨rfl, H⟩ | ⟨rfl, H⟩
       ·(try simp only [Bool.not_true, Bool.not_false])
        have H' := Aside0.mk H
        clear H
        go_wp2
        go_roundg k1
        case measure => have := HK1.out; omega
        case rel => exact ⟨(wrap64 (x5_1 + 1)), ev, H', ⟨oa HK1⟩, ⟨bw⟩⟩
       ·(try simp only [Bool.not_true, Bool.not_false])
        obtain rfl := Option.some.inj H
        go_wp2
        go_ret
        exact ⟨rt, bw⟩
      ·rw [if_neg c6] at H
       exact absurd H (by simp)
     ·rw [if_neg c5] at H
      exact absurd H (by simp)
    ·obtain rfl := Option.some.inj H
     go_wp2
     go_ret
     exact ⟨rt, bw⟩
 ·rw [if_neg c3] at H
  have c3b0 : ((l0.length : Int) == (l1.length : Int)) = false := beq_eq_false_iff_ne.mpr c3
  have c3b1 : ((l0.length : Int) != (l1.length : Int)) = true := bne_iff_ne.mpr c3
  have c3b2 : (l0.length == l1.length) = false := by first | simpa using c3 | (simp at c3 ⊢; omega)
  obtain rfl := Option.some.inj H
  go_enter Tryd.func60, Tryd.ntmps60
  go_wp2
  go_ret
  exact ⟨rt, bw⟩

/-! ### laws_eqMach: function 27 -/
def laws_eqMach.f (k : Nat) (l0_0 : List Int) (l0_1 : List (S28)) (l1_0 : List Int) (l1_1 : List (S28)) : Option (Bool) := (laws_eqMem.f k l0_0 l1_0).bind fun t794 => (if t794 = true then ((laws_eqWarpS.f k l0_1 l1_1).bind fun t795 => (if t795 = true then (some true) else (some false))) else (some false))
theorem laws_eqMach.mono : ∀ a0 a1 a2 a3 k, LeO (laws_eqMach.f k a0 a1 a2 a3) (laws_eqMach.f (k + 1) a0 a1 a2 a3) := by
 intro a0 a1 a2 a3 k
 unfold laws_eqMach.f
 repeat' first
  | (with_reducible first | exact laws_eqMem.mono .. | exact laws_eqWarpS.mono .. | exact LeO.refl _ | exact LeO.none _ | refine LeO.ite ?_ ?_ | refine LeO.bind ?_ (fun _ => ?_))
  | exact LeO.none _ | refine LeO.ite ?_ ?_ | refine LeO.bind ?_ (fun _ => ?_)
set_option maxHeartbeats 2000000 in
set_option maxRecDepth 100000 in
theorem laws_eqMach.calls (k : Nat) (A0_0 : Option Addr) (c0_0 : Nat) (l0_0 : List Int) (A0_1 : Option Addr) (c0_1 : Nat) (l0_1 : List (S28)) (A1_0 : Option Addr) (c1_0 : Nat) (l1_0 : List Int) (A1_1 : Option Addr) (c1_1 : Nat) (l1_1 : List (S28)) (r : Bool) (w : World) (hr0_0 : Kd.C (Kd.int .u32) w A0_0 l0_0.length l0_0) (hc0_0 : l0_0.length ≤ c0_0) (hr0_1 : Kd.C k28 w A0_1 l0_1.length l0_1) (hc0_1 : l0_1.length ≤ c0_1) (hr1_0 : Kd.C (Kd.int .u32) w A1_0 l1_0.length l1_0) (hc1_0 : l1_0.length ≤ c1_0) (hr1_1 : Kd.C k28 w A1_1 l1_1.length l1_1) (hc1_1 : l1_1.length ≤ c1_1) (h : laws_eqMach.f k l0_0 l0_1 l1_0 l1_1 = some r) :
  Calls Tryd.prog 27 #[.agg #[.slice A0_0 l0_0.length c0_0, .slice A0_1 l0_1.length c0_1], .agg #[.slice A1_0 l1_0.length c1_0, .slice A1_1 l1_1.length c1_1]] w fun e w' => e = .returned (.bool r) ∧ Below w.heap.size w w' := by
 have hu56 := Tryd.underlying56
 have hu53 := Tryd.underlying53
 have HR0_0 := Aside0.mk hr0_0
 have HC0_0 := Aside0.mk hc0_0
 clear hr0_0 hc0_0
 have HR0_1 := Aside0.mk hr0_1
 have HC0_1 := Aside0.mk hc0_1
 clear hr0_1 hc0_1
 have HR1_0 := Aside0.mk hr1_0
 have HC1_0 := Aside0.mk hc1_0
 clear hr1_0 hc1_0
 have HR1_1 := Aside0.mk hr1_1
 have HC1_1 := Aside0.mk hc1_1
 clear hr1_1 hc1_1
 have HB := Aside0.mk (Below.refl w.heap.size w)
 unfold laws_eqMach.f at h
 have H := h
 clear h
 replace H := bn H
 obtain ⟨t794, A3, H⟩ := H
 try dsimp only at H
 have HU4 := Aside0.mk H
 clear H
 go_enter Tryd.func27, Tryd.ntmps27
 go_upto_if 10 with (first | ((with_reducible refine gd 2 ?_); refine bx 2 56 #[.slice A0_0 l0_0.length c0_0, .slice A0_1 l0_1.length c0_1] ?_; clear HB; intro gb792 w5 hg BK792 hb GE792 HB; clear hb hg) | ((with_reducible refine gd 3 ?_); refine bx 3 56 #[.slice A1_0 l1_0.length c1_0, .slice A1_1 l1_1.length c1_1] ?_; clear HB; intro gb793 w6 hg BK793 hb GE793 HB; have NB792_793 := nl BK792 hg; have NB793_792 := ng BK792 hg; replace BK792 := b_ BK792 hb; clear hb hg; have hnb7 := NB792_793.out; have hnc7 := NB793_792.out; obtain ⟨z8_0, z8_1⟩ := ca2 BK792; obtain ⟨f8_0, f8_1⟩ := fa2 BK792; obtain ⟨z9_0, z9_1⟩ := ca2 BK793; obtain ⟨f9_0, f9_1⟩ := fa2 BK793) | ((with_reducible refine gf 59 ?_); refine gc Tryd.func59 (some 9) (laws_eqMem.calls _ A0_0 c0_0 _ A1_0 c1_0 _ _ _ (cb HR0_0) HC0_0.out (cb HR1_0) HC1_0.out A3.out) ?_; rintro e w10 ⟨rfl, hb⟩; refine ⟨_, rfl, ?_⟩; replace BK792 := b_ BK792 hb; replace BK793 := b_ BK793 hb; replace HB := hs hb; try clear hb))
 (try refine ap ?_)
 have H := HU4.out
 clear HU4
 replace H := ib H
 rcases H with ⟨rfl, H⟩ | ⟨rfl, H⟩
 ·(try simp only [Bool.not_true, Bool.not_false])
  replace H := bn H
  obtain ⟨t795, A12, H⟩ := H
  try dsimp only at H
  have HU13 := Aside0.mk H
  clear H
  have hnb14 := NB792_793.out
  have hnc14 := NB793_792.out
  obtain ⟨z15_0, z15_1⟩ := ca2 BK792
  obtain ⟨f15_0, f15_1⟩ := fa2 BK792
  obtain ⟨z16_0, z16_1⟩ := ca2 BK793
  obtain ⟨f16_0, f16_1⟩ := fa2 BK793
  go_upto_if 16 with (first | ((with_reducible refine gf 60 ?_); refine gc Tryd.func60 (some 15) (laws_eqWarpS.calls _ A0_1 c0_1 _ A1_1 c1_1 _ _ _ (cb HR0_1) HC0_1.out (cb HR1_1) HC1_1.out A12.out) ?_; rintro e w17 ⟨rfl, hb⟩; refine ⟨_, rfl, ?_⟩; replace BK792 := b_ BK792 hb; replace BK793 := b_ BK793 hb; replace HB := hs hb; try clear hb))
  (try refine ap ?_)
  have H := HU13.out
  clear HU13
  replace H := ib H
  rcases H with ⟨rfl, H⟩ | ⟨rfl, H⟩
  ·(try simp only [Bool.not_true, Bool.not_false])
   obtain rfl := Option.some.inj H
   go_wp2
   go_ret
   exact ⟨rt, bw⟩
  ·(try simp only [Bool.not_true, Bool.not_false])
   obtain rfl := Option.some.inj H
   go_wp2
   go_ret
   exact ⟨rt, bw⟩
 ·(try simp only [Bool.not_true, Bool.not_false])
  obtain rfl := Option.some.inj H
  go_wp2
  go_ret
  exact ⟨rt, bw⟩

end Go.Proofs.YtfhcnnkeokjfpaaDoor.PM1
namespace Go.Proofs.YtfhcnnkeokjfpaaDoor.PM1
open Go.RowKit Go.Proofs.YtfhcnnkeokjfpaaDoorW.PrintWords Go.Proofs.YtfhcnnkeokjfpaaDoorW.PrintLast Go.Proofs.YtfhcnnkeokjfpaaDoorW.PrintMore Go.Proofs.YtfhcnnkeokjfpaaDoor.T
attribute [local go_sem] max2_int min2_int max_two min_two max_three min_three max_four min_four   -- for this text's walks alone
set_option linter.unusedVariables false
set_option linter.unusedSimpArgs false

theorem shl_one_ (n : Int) : shl IntKind.u32 1 n = 2 ^ n.toNat % 4294967296 := by
 have e : shl IntKind.u32 1 n = IntKind.u32.wrap (1 * 2 ^ min n.toNat 32) := rfl
 rw [e]
 have w : ∀ x : Int, IntKind.u32.wrap x = x % 4294967296 := fun x => by simp [IntKind.wrap, IntKind.signed, IntKind.bits]
 rw [w, Int.one_mul]
 by_cases h : n.toNat ≤ 32
 ·rw [Nat.min_eq_left h]
 ·rw [Nat.min_eq_right (by omega)]
  obtain ⟨d, hd⟩ : ∃ d, n.toNat = 32 + d := ⟨n.toNat - 32, by omega⟩
  rw [hd, Int.pow_add]
  have h2 : (2 : Int) ^ 32 = 4294967296 := by decide
  rw [h2]
  omega

/-! ### impl_isMask: function 73 -/
def impl_isMask.f (a0 : Int) : Option (Bool) := some (decide (a0 < 256))
set_option maxHeartbeats 2000000 in
set_option maxRecDepth 100000 in
theorem impl_isMask.calls (a0 : Int) (r : Bool) (w : World) (h : impl_isMask.f a0 = some r) :
  Calls Tryd.prog 73 #[.int .u32 a0] w fun e w' => e = .returned (.bool r) ∧ Drawn0 w w' := by
 unfold impl_isMask.f at h
 have H := h
 clear h
 obtain rfl := Option.some.inj H
 go_enter Tryd.func73, Tryd.ntmps73
 go_wp2
 go_ret
 exact ⟨ev, dr⟩

/-! ### impl_asks: function 74 -/
def impl_asks.l0 : Nat → Int → List Int → Int → Int → Int → List Int → Option (Int)
 | 0, _, _, _, _, _, _ => none
 | k + 1, x3, x7, x8, x9, x252000, x252001 => if x9 < x8 then (if 0 ≤ x9 then (if x9 < (x7.length : Int) then (if x252000 = 1 then (if (rd x7 x9) > 0 then (impl_asks.l0 k (Go.bits .or .u32 x3 (shl .u32 1 x9)) x7 x8 (wrap64 (x9 + 1)) x252000 x252001) else (if x252000 = 2 then (if (rd x7 x9) ≥ 0 then (impl_asks.l0 k (Go.bits .or .u32 x3 (shl .u32 1 x9)) x7 x8 (wrap64 (x9 + 1)) x252000 x252001) else (impl_asks.l0 k x3 x7 x8 (wrap64 (x9 + 1)) x252000 x252001)) else (impl_asks.l0 k x3 x7 x8 (wrap64 (x9 + 1)) x252000 x252001))) else (if x252000 = 2 then (if (rd x7 x9) ≥ 0 then (impl_asks.l0 k (Go.bits .or .u32 x3 (shl .u32 1 x9)) x7 x8 (wrap64 (x9 + 1)) x252000 x252001) else (impl_asks.l0 k x3 x7 x8 (wrap64 (x9 + 1)) x252000 x252001)) else (impl_asks.l0 k x3 x7 x8 (wrap64 (x9 + 1)) x252000 x252001))) else (none)) else (none)) else (some x3)
def impl_asks.f (k : Nat) (a0_0 : Int) (l0_1 : List Int) : Option (Int) := impl_asks.l0 k 0 l0_1 (l0_1.length : Int) 0 a0_0 l0_1
theorem impl_asks.mono_l : ∀ k, (∀ y0 y1 y2 y3 y4 y5, LeO (impl_asks.l0 k y0 y1 y2 y3 y4 y5) (impl_asks.l0 (k + 1) y0 y1 y2 y3 y4 y5))
 | 0 => fun _ _ _ _ _ _ r h => by simp [impl_asks.l0] at h
 | k + 1 => by
  have ih0 := impl_asks.mono_l k
  ·intro y0 y1 y2 y3 y4 y5
   unfold impl_asks.l0
   repeat' first
    | (with_reducible first | exact ih0 .. | exact LeO.refl _ | exact LeO.none _ | refine LeO.ite ?_ ?_ | refine LeO.bind ?_ (fun _ => ?_))
    | exact LeO.none _ | refine LeO.ite ?_ ?_ | refine LeO.bind ?_ (fun _ => ?_)
theorem impl_asks.mono : ∀ a0 a1 k, LeO (impl_asks.f k a0 a1) (impl_asks.f (k + 1) a0 a1) := by
 intro a0 a1 k
 have ih0 := impl_asks.mono_l k
 unfold impl_asks.f
 repeat' first
  | (with_reducible first | exact ih0 .. | exact LeO.refl _ | exact LeO.none _ | refine LeO.ite ?_ ?_ | refine LeO.bind ?_ (fun _ => ?_))
  | exact LeO.none _ | refine LeO.ite ?_ ?_ | refine LeO.bind ?_ (fun _ => ?_)
set_option maxHeartbeats 2000000 in
set_option maxRecDepth 100000 in
theorem impl_asks.calls (k : Nat) (a0_0 : Int) (A0_1 : Option Addr) (c0_1 : Nat) (l0_1 : List Int) (r : Int) (w : World) (hr0_1 : Kd.C (Kd.int .i64) w A0_1 l0_1.length l0_1) (hc0_1 : l0_1.length ≤ c0_1) (h : impl_asks.f k a0_0 l0_1 = some r) :
  Calls Tryd.prog 74 #[.agg #[.int .i64 a0_0, .slice A0_1 l0_1.length c0_1]] w fun e w' => e = .returned (.int .u32 r) ∧ Below w.heap.size w w' := by
 have hu39 := Tryd.underlying39
 have HR0_1 := Aside0.mk hr0_1
 have HC0_1 := Aside0.mk hc0_1
 clear hr0_1 hc0_1
 have HB := Aside0.mk (Below.refl w.heap.size w)
 unfold impl_asks.f at h
 have H := h
 clear h
 have H' := Aside0.mk H
 clear H
 go_enter Tryd.func74, Tryd.ntmps74
 go_wp2_with (first | ((with_reducible refine gd 1 ?_); refine bx 1 39 #[.int .i64 a0_0, .slice A0_1 l0_1.length c0_1] ?_; clear HB; intro gb251 w2 hg BK251 hb GE251 HB; clear hb hg; obtain ⟨z3_0, z3_1⟩ := ca2 BK251; obtain ⟨f3_0, f3_1⟩ := fa2 BK251))
 go_loopg [3, 9] k (fun kq v3 v9 w' => ∃ (x3_1 : Int) (x9_1 : Int), v3 = .int .u32 x3_1 ∧ v9 = .int .i64 x9_1 ∧ Aside0 (impl_asks.l0 kq x3_1 l0_1 (l0_1.length : Int) x9_1 a0_0 l0_1 = some r) ∧ Aside0 (kq ≤ k) ∧ Aside0 (w'.heap[gb251]? = some (.cells #[.int .i64 a0_0, (.slice A0_1 l0_1.length c0_1)] 39 (0, 0))) ∧ Aside0 (Below w.heap.size w w'))
 case atStart => exact ⟨(0), (0), ev, ev, H', ⟨Nat.le_refl _⟩, ⟨bk BK251⟩, ⟨bw⟩⟩
 case round =>
  clear H'
  (try clear z3_0 z3_1)
  (try clear f3_0 f3_1)
  obtain ⟨x3_1, x9_1, rfl, rfl, HA, HK1, BK251, HB⟩ := hrel
  cases gk with
  | zero => exact absurd HA.out (by simp [impl_asks.l0])
  | succ k1 =>
   have H := HA.out
   clear HA
   simp only [impl_asks.l0] at H
   replace H := ilt H
   rcases H with ⟨c4b0, H⟩ | ⟨c4b0, H⟩
   ·by_cases c5 : 0 ≤ x9_1
    ·rw [if_pos c5] at H
     have c5b0 : decide (0 ≤ x9_1) = true := decide_eq_true c5
     clear c5
     by_cases c6 : x9_1 < (l0_1.length : Int)
     ·rw [if_pos c6] at H
      have c6b0 : decide (x9_1 < (l0_1.length : Int)) = true := decide_eq_true c6
      clear c6
      replace H := ieq H
      rcases H with ⟨c7b0, c7b1, H⟩ | ⟨c7, c7b0, c7b1, H⟩
      ·replace H := igt H
       rcases H with ⟨c8b0, H⟩ | ⟨c8b0, H⟩
       ·have c9b0 := eq_true (of_decide_eq_true as_ : 0 ≤ x9_1)
        obtain ⟨ji10, hji10⟩ : ∃ j_ : Int, (shl .u32 1 x9_1) = j_ := ⟨_, rfl⟩
        first | rw [hji10] at H | simp only [hji10] at H
        have hji10_ : (IntKind.u32.wrap (1 * 2 ^ min x9_1.toNat 32)) = ji10 := hji10
        have hji10z : x9_1 ≤ 32 → (IntKind.u32.wrap (1 * 2 ^ x9_1.toNat)) = ji10 := shl_small hji10
        have hji10u : (IntKind.u32.wrap (2 ^ min x9_1.toNat 32)) = ji10 := by have h_ := hji10_; rw [Int.one_mul] at h_; exact h_
        have hji10v : x9_1 ≤ 32 → (IntKind.u32.wrap (2 ^ x9_1.toNat)) = ji10 := fun hle_ => by have h_ := hji10z hle_; rw [Int.one_mul] at h_; exact h_
        have H' := Aside0.mk H
        clear H
        have p252 : 0 ≤ (x9_1 : Int) := of_decide_eq_true as_
        have q252 : x9_1 < (l0_1.length : Int) := of_decide_eq_true as_
        obtain ⟨ad252, e252, hx252_0⟩ := Kd.at_int HR0_1.out x9_1 p252 q252
        cases e252
        replace hx252_0 := cl HB hx252_0
        replace p252 := eq_true p252
        replace q252 := eq_true q252
        obtain ⟨z11_0, z11_1⟩ := ca2 BK251
        obtain ⟨f11_0, f11_1⟩ := fa2 BK251
        go_wp2
        go_roundg k1
        case measure => have := HK1.out; omega
        case rel => exact ⟨(Go.bits .or .u32 x3_1 (ji10)), (wrap64 (x9_1 + 1)), (by first | rfl | (simp; done) | (simp only [← hji10] <;> (first | rfl | (rw [shl_one_]; done) | simp)) | (simp [*]; done)), ev, H', ⟨oa HK1⟩, ⟨bk BK251⟩, ⟨bw⟩⟩
       ·replace H := ieq H
        rcases H with ⟨c12b0, c12b1, H⟩ | ⟨c12, c12b0, c12b1, H⟩
        ·replace H := ige H
         rcases H with ⟨c13b0, H⟩ | ⟨c13b0, H⟩
         ·have c14b0 := eq_true (of_decide_eq_true as_ : 0 ≤ x9_1)
          obtain ⟨ji15, hji15⟩ : ∃ j_ : Int, (shl .u32 1 x9_1) = j_ := ⟨_, rfl⟩
          first | rw [hji15] at H | simp only [hji15] at H
          have hji15_ : (IntKind.u32.wrap (1 * 2 ^ min x9_1.toNat 32)) = ji15 := hji15
          have hji15z : x9_1 ≤ 32 → (IntKind.u32.wrap (1 * 2 ^ x9_1.toNat)) = ji15 := shl_small hji15
          have hji15u : (IntKind.u32.wrap (2 ^ min x9_1.toNat 32)) = ji15 := by have h_ := hji15_; rw [Int.one_mul] at h_; exact h_
          have hji15v : x9_1 ≤ 32 → (IntKind.u32.wrap (2 ^ x9_1.toNat)) = ji15 := fun hle_ => by have h_ := hji15z hle_; rw [Int.one_mul] at h_; exact h_
          have H' := Aside0.mk H
          clear H
          have p252 : 0 ≤ (x9_1 : Int) := of_decide_eq_true as_
          have q252 : x9_1 < (l0_1.length : Int) := of_decide_eq_true as_
          obtain ⟨ad252, e252, hx252_0⟩ := Kd.at_int HR0_1.out x9_1 p252 q252
          cases e252
          replace hx252_0 := cl HB hx252_0
          replace p252 := eq_true p252
          replace q252 := eq_true q252
          obtain ⟨z16_0, z16_1⟩ := ca2 BK251
          obtain ⟨f16_0, f16_1⟩ := fa2 BK251
          go_wp2
          go_roundg k1
          case measure => have := HK1.out; omega
          case rel => exact ⟨(Go.bits .or .u32 x3_1 (ji15)), (wrap64 (x9_1 + 1)), (by first | rfl | (simp; done) | (simp only [← hji15] <;> (first | rfl | (rw [shl_one_]; done) | simp)) | (simp [*]; done)), ev, H', ⟨oa HK1⟩, ⟨bk BK251⟩, ⟨bw⟩⟩
         ·have H' := Aside0.mk H
          clear H
          have p252 : 0 ≤ (x9_1 : Int) := of_decide_eq_true as_
          have q252 : x9_1 < (l0_1.length : Int) := of_decide_eq_true as_
          obtain ⟨ad252, e252, hx252_0⟩ := Kd.at_int HR0_1.out x9_1 p252 q252
          cases e252
          replace hx252_0 := cl HB hx252_0
          replace p252 := eq_true p252
          replace q252 := eq_true q252
          obtain ⟨z17_0, z17_1⟩ := ca2 BK251
          obtain ⟨f17_0, f17_1⟩ := fa2 BK251
          go_wp2
          go_roundg k1
          case measure => have := HK1.out; omega
          case rel => exact ⟨(x3_1), (wrap64 (x9_1 + 1)), ev, ev, H', ⟨oa HK1⟩, ⟨bk BK251⟩, ⟨bw⟩⟩
        ·have H' := Aside0.mk H
         clear H
         have p252 : 0 ≤ (x9_1 : Int) := of_decide_eq_true as_
         have q252 : x9_1 < (l0_1.length : Int) := of_decide_eq_true as_
         obtain ⟨ad252, e252, hx252_0⟩ := Kd.at_int HR0_1.out x9_1 p252 q252
         cases e252
         replace hx252_0 := cl HB hx252_0
         replace p252 := eq_true p252
         replace q252 := eq_true q252
         obtain ⟨z18_0, z18_1⟩ := ca2 BK251
         obtain ⟨f18_0, f18_1⟩ := fa2 BK251
         go_wp2
         go_roundg k1
         case measure => have := HK1.out; omega
         case rel => exact ⟨(x3_1), (wrap64 (x9_1 + 1)), ev, ev, H', ⟨oa HK1⟩, ⟨bk BK251⟩, ⟨bw⟩⟩
      ·replace H := ieq H
       rcases H with ⟨c19b0, c19b1, H⟩ | ⟨c19, c19b0, c19b1, H⟩
       ·replace H := ige H
        rcases H with ⟨c20b0, H⟩ | ⟨c20b0, H⟩
        ·have c21b0 := eq_true (of_decide_eq_true as_ : 0 ≤ x9_1)
         obtain ⟨ji22, hji22⟩ : ∃ j_ : Int, (shl .u32 1 x9_1) = j_ := ⟨_, rfl⟩
         first | rw [hji22] at H | simp only [hji22] at H
         have hji22_ : (IntKind.u32.wrap (1 * 2 ^ min x9_1.toNat 32)) = ji22 := hji22
         have hji22z : x9_1 ≤ 32 → (IntKind.u32.wrap (1 * 2 ^ x9_1.toNat)) = ji22 := shl_small hji22
         have hji22u : (IntKind.u32.wrap (2 ^ min x9_1.toNat 32)) = ji22 := by have h_ := hji22_; rw [Int.one_mul] at h_; exact h_
         have hji22v : x9_1 ≤ 32 → (IntKind.u32.wrap (2 ^ x9_1.toNat)) = ji22 := fun hle_ => by have h_ := hji22z hle_; rw [Int.one_mul] at h_; exact h_
         have H' := Aside0.mk H
         clear H
         have p252 : 0 ≤ (x9_1 : Int) := of_decide_eq_true as_
         have q252 : x9_1 < (l0_1.length : Int) := of_decide_eq_true as_
         obtain ⟨ad252, e252, hx252_0⟩ := Kd.at_int HR0_1.out x9_1 p252 q252
         cases e252
         replace hx252_0 := cl HB hx252_0
         replace p252 := eq_true p252
         replace q252 := eq_true q252
         obtain ⟨z23_0, z23_1⟩ := ca2 BK251
         obtain ⟨f23_0, f23_1⟩ := fa2 BK251
         go_wp2
         go_roundg k1
         case measure => have := HK1.out; omega
         case rel => exact ⟨(Go.bits .or .u32 x3_1 (ji22)), (wrap64 (x9_1 + 1)), (by first | rfl | (simp; done) | (simp only [← hji22] <;> (first | rfl | (rw [shl_one_]; done) | simp)) | (simp [*]; done)), ev, H', ⟨oa HK1⟩, ⟨bk BK251⟩, ⟨bw⟩⟩
        ·have H' := Aside0.mk H
         clear H
         have p252 : 0 ≤ (x9_1 : Int) := of_decide_eq_true as_
         have q252 : x9_1 < (l0_1.length : Int) := of_decide_eq_true as_
         obtain ⟨ad252, e252, hx252_0⟩ := Kd.at_int HR0_1.out x9_1 p252 q252
         cases e252
         replace hx252_0 := cl HB hx252_0
         replace p252 := eq_true p252
         replace q252 := eq_true q252
         obtain ⟨z24_0, z24_1⟩ := ca2 BK251
         obtain ⟨f24_0, f24_1⟩ := fa2 BK251
         go_wp2
         go_roundg k1
         case measure => have := HK1.out; omega
         case rel => exact ⟨(x3_1), (wrap64 (x9_1 + 1)), ev, ev, H', ⟨oa HK1⟩, ⟨bk BK251⟩, ⟨bw⟩⟩
       ·have H' := Aside0.mk H
        clear H
        have p252 : 0 ≤ (x9_1 : Int) := of_decide_eq_true as_
        have q252 : x9_1 < (l0_1.length : Int) := of_decide_eq_true as_
        obtain ⟨ad252, e252, hx252_0⟩ := Kd.at_int HR0_1.out x9_1 p252 q252
        cases e252
        replace hx252_0 := cl HB hx252_0
        replace p252 := eq_true p252
        replace q252 := eq_true q252
        obtain ⟨z25_0, z25_1⟩ := ca2 BK251
        obtain ⟨f25_0, f25_1⟩ := fa2 BK251
        go_wp2
        go_roundg k1
        case measure => have := HK1.out; omega
        case rel => exact ⟨(x3_1), (wrap64 (x9_1 + 1)), ev, ev, H', ⟨oa HK1⟩, ⟨bk BK251⟩, ⟨bw⟩⟩
     ·rw [if_neg c6] at H
      exact absurd H (by simp)
    ·rw [if_neg c5] at H
     exact absurd H (by simp)
   ·obtain rfl := Option.some.inj H
    go_wp2
    go_ret
    exact ⟨rt, bw⟩

end Go.Proofs.YtfhcnnkeokjfpaaDoor.PM1
namespace Go.Proofs.YtfhcnnkeokjfpaaDoor.PM1
open Go.RowKit Go.Proofs.YtfhcnnkeokjfpaaDoorW.PrintWords Go.Proofs.YtfhcnnkeokjfpaaDoorW.PrintLast Go.Proofs.YtfhcnnkeokjfpaaDoorW.PrintMore Go.Proofs.YtfhcnnkeokjfpaaDoor.T
attribute [local go_sem] max2_int min2_int max_two min_two max_three min_three max_four min_four   -- for this text's walks alone
set_option linter.unusedVariables false
set_option linter.unusedSimpArgs false

/-! ### impl_startsBlock: function 114 -/
def impl_startsBlock.f (a0_0 : Int) (a0_1 : Int) (a0_2 : Int) (a0_3 : Int) (a1 : Int) : Option (Bool) := if a0_0 = 1 then ((impl_within.f a1 0 15).bind fun t266 => (if t266 = true then (if 0 ≤ a0_1 then (if (shl .i64 (shr .i64 a1 a0_1) a0_1) = a1 then (if 0 ≤ (shr .i64 a1 a0_1) then (some ((Go.bits .and .u32 (shr .u32 a0_2 (shr .i64 a1 a0_1)) 1) == 1)) else (none)) else (some false)) else (none)) else (some false))) else (some false)
def impl_startsBlock.T1 : Bool × List (List Nat × List Nat) := (true, [([], []), ([0], [0]), ([1], [1]), ([2], [2]), ([3], [3]), ([4, 3, 3], [3, 4]), ([3, 5], [3, 5]), ([6, 5], [6]), ([7], [7]), ([7], [7]), ([9, 7], [7, 9]), ([8, 10, 7], [7, 8, 10]), ([7], [7]), ([12, 7], [7, 12]), ([11, 13, 7], [7, 11, 13]), ([7], [7]), ([14, 15, 7], [7, 14, 15]), ([7, 16], [7, 16]), ([17, 7], [17]), ([18], [18]), ([19, 18], [18, 19]), ([18], [18]), ([18], [18]), ([22, 18], [18, 22]), ([21, 23, 18], [18, 21, 23]), ([20, 24, 18], [18, 20, 24]), ([25, 18], [18, 25]), ([26, 18], [18, 26]), ([18, 27], [18, 27]), ([28, 18, 0, 1, 2, 3, 4, 5, 6, 7, 8, 9, 10, 11, 12, 13, 14, 15, 16, 17, 18, 19, 20, 21, 22, 23, 24, 25, 26, 27, 28], [28])])
def impl_startsBlock.B1 : List Nat := [0, 1, 3, 7, 15, 31, 63, 127, 255, 255, 767, 2047, 255, 4351, 16383, 255, 65535, 131071, 262143, 524287, 1048575, 524287, 524287, 4718591, 15204351, 33554431, 67108863, 134217727, 268435455, 536870911]
theorem impl_startsBlock.tab1 : rtab .any (opsOf Tryd.f114 1) = impl_startsBlock.T1 := kr
theorem impl_startsBlock.bits1 : waitsOk impl_startsBlock.T1.2 impl_startsBlock.B1 = true := kr
set_option maxHeartbeats 2000000 in
set_option maxRecDepth 100000 in
theorem impl_startsBlock.calls (a0_0 : Int) (a0_1 : Int) (a0_2 : Int) (a0_3 : Int) (a1 : Int) (r : Bool) (w : World) (h : impl_startsBlock.f a0_0 a0_1 a0_2 a0_3 a1 = some r) :
  Calls Tryd.prog 114 #[.agg #[.int .i64 a0_0, .int .i64 a0_1, .int .u32 a0_2, .int .i64 a0_3], .int .i64 a1] w fun e w' => e = .returned (.bool r) ∧ Below w.heap.size w w' := by
 have hu91 := Tryd.underlying91
 have HB := Aside0.mk (Below.refl w.heap.size w)
 unfold impl_startsBlock.f at h
 have H := h
 clear h
 replace H := ieq H
 rcases H with ⟨c3b0, c3b1, H⟩ | ⟨c3, c3b0, c3b1, H⟩
 ·replace H := bn H
  obtain ⟨t266, A4, H⟩ := H
  try dsimp only at H
  replace H := ib H
  rcases H with ⟨rfl, H⟩ | ⟨rfl, H⟩
  ·by_cases c6 : 0 ≤ a0_1
   ·rw [if_pos c6] at H
    have c6b0 := eq_true c6
    have c6b1 : decide (0 ≤ a0_1) = true := decide_eq_true c6
    clear c6
    obtain ⟨ji7, hji7⟩ : ∃ j_ : Int, (shr .i64 a1 a0_1) = j_ := ⟨_, rfl⟩
    first | rw [hji7] at H | simp only [hji7] at H
    (try rw [hji7] at A4)
    have hji7_ : (a1 / 2 ^ min a0_1.toNat 64) = ji7 := hji7
    have hji7z : a0_1 ≤ 64 → (a1 / 2 ^ a0_1.toNat) = ji7 := shr_small hji7
    have c8b0 := eq_true (of_decide_eq_true as_ : 0 ≤ a0_1)
    obtain ⟨ji9, hji9⟩ : ∃ j_ : Int, (shl .i64 (ji7) a0_1) = j_ := ⟨_, rfl⟩
    first | rw [hji9] at H | simp only [hji9] at H
    (try rw [hji9] at A4)
    have hji9_ : (IntKind.i64.wrap ((ji7) * 2 ^ min a0_1.toNat 64)) = ji9 := hji9
    have hji9z : a0_1 ≤ 64 → (IntKind.i64.wrap ((ji7) * 2 ^ a0_1.toNat)) = ji9 := shl_small hji9
    have hji9y : (wrap64 ((ji7) * 2 ^ min a0_1.toNat 64)) = ji9 := (i64_w _).symm.trans hji9_
    have hji9x : a0_1 ≤ 64 → (wrap64 ((ji7) * 2 ^ a0_1.toNat)) = ji9 := fun h_ => (i64_w _).symm.trans (hji9z h_)
    replace H := ieq H
    rcases H with ⟨c10b0, c10b1, H⟩ | ⟨c10, c10b0, c10b1, H⟩
    ·have c11b0 := eq_true (of_decide_eq_true as_ : 0 ≤ a0_1)
     by_cases c12 : 0 ≤ (ji7)
     ·rw [if_pos c12] at H
      have c12b0 := eq_true c12
      have c12b1 : decide (0 ≤ (ji7)) = true := decide_eq_true c12
      clear c12
      obtain ⟨ji13, hji13⟩ : ∃ j_ : Int, (shr .u32 a0_2 (ji7)) = j_ := ⟨_, rfl⟩
      first | rw [hji13] at H | simp only [hji13] at H
      (try rw [hji13] at A4)
      have hji13_ : (a0_2 / 2 ^ min (ji7).toNat 32) = ji13 := hji13
      have hji13z : (ji7) ≤ 32 → (a0_2 / 2 ^ (ji7).toNat) = ji13 := shr_small hji13
      obtain rfl := Option.some.inj H
      go_enter Tryd.func114, Tryd.ntmps114
      try go_wp2_with (first | ((with_reducible refine gd 2 ?_); refine bx 2 91 #[.int .i64 a0_0, .int .i64 a0_1, .int .u32 a0_2, .int .i64 a0_3] ?_; clear HB; intro gb265 w14 hg BK265 hb GE265 HB; clear hb hg))
      replace BK265 := bd BK265
      replace HB := hd HB
      refine st 30 (fun w' => CA w' gb265 0 [.int .i64 a0_0, .int .i64 a0_1, .int .u32 a0_2, .int .i64 a0_3]) [] (cx BK265) impl_startsBlock.tab1 impl_startsBlock.bits1 ?_; intro hHeld HT_ HW_
      generalize w14.drew = w15 at BK265 HB hHeld ⊢
      refine pu 0 5 (bl 30 1) ?_
      refine tk 1 6 (bl 30 3) ?_
      refine pu 2 7 (bl 30 7) ?_
      refine pu 3 8 (bl 30 15) ?_
      refine pu 4 9 (bl 30 31) ?_
      refine on_ 5 (some 10) (bl 30 63) (fun K hK => ?_)
      refine gq Tryd.func72 (impl_within.calls _ _ _ _ _ A4.out) ?_
      rintro e w' ⟨rfl, ⟨nd, rfl⟩⟩
      refine ⟨_, rfl, ?_⟩
      refine hK.out _ _ (cx BK265) (fun hHeld => ?_)
      clear hK K
      refine nm ?_
      refine pu 6 11 (bl 30 127) ?_
      refine pu 7 12 (bl 30 255) ?_
      refine pu 8 13 (bl 30 511) ?_
      refine pu 9 14 (bl 30 1023) ?_
      refine pu 12 17 (bl 30 5119) ?_
      refine pu 15 20 (bl 30 37887) ?_
      refine tk 10 15 (bl 30 38911) ?_
      refine pu 11 16 (bl 30 40959) ?_
      refine tk 13 18 (bl 30 49151) ?_
      refine pu 14 19 (bl 30 65535) ?_
      refine pu 16 21 (bl 30 131071) ?_
      refine pu 17 22 (bl 30 262143) ?_
      refine pu 18 23 (bl 30 524287) ?_
      refine pu 19 24 (bl 30 1048575) ?_
      refine pu 21 26 (bl 30 3145727) ?_
      refine pu 22 27 (bl 30 7340031) ?_
      refine tk 20 25 (bl 30 8388607) ?_
      refine tk 23 28 (bl 30 16777215) ?_
      refine pu 24 29 (bl 30 33554431) ?_
      refine pu 25 30 (bl 30 67108863) ?_
      refine pu 26 31 (bl 30 134217727) ?_
      refine pu 27 32 (bl 30 268435455) ?_
      refine pu 28 33 (bl 30 536870911) ?_
      refine pu 29 4 (bl 30 1073741823) ?_
      refine dn ?_ _
      try go_wp2
      go_ret
      exact ⟨by first | exact rt1 | (simp only [← hji7, ← hji9, ← hji13]; exact rt1) | exact rt, bw⟩
     ·rw [if_neg c12] at H
      exact absurd H (by simp)
    ·obtain rfl := Option.some.inj H
     go_enter Tryd.func114, Tryd.ntmps114
     try go_wp2_with (first | ((with_reducible refine gd 2 ?_); refine bx 2 91 #[.int .i64 a0_0, .int .i64 a0_1, .int .u32 a0_2, .int .i64 a0_3] ?_; clear HB; intro gb265 w16 hg BK265 hb GE265 HB; clear hb hg))
     replace BK265 := bd BK265
     replace HB := hd HB
     refine st 30 (fun w' => CA w' gb265 0 [.int .i64 a0_0, .int .i64 a0_1, .int .u32 a0_2, .int .i64 a0_3]) [] (cx BK265) impl_startsBlock.tab1 impl_startsBlock.bits1 ?_; intro hHeld HT_ HW_
     generalize w16.drew = w17 at BK265 HB hHeld ⊢
     refine pu 0 5 (bl 30 1) ?_
     refine tk 1 6 (bl 30 3) ?_
     refine pu 2 7 (bl 30 7) ?_
     refine pu 3 8 (bl 30 15) ?_
     refine pu 4 9 (bl 30 31) ?_
     refine on_ 5 (some 10) (bl 30 63) (fun K hK => ?_)
     refine gq Tryd.func72 (impl_within.calls _ _ _ _ _ A4.out) ?_
     rintro e w' ⟨rfl, ⟨nd, rfl⟩⟩
     refine ⟨_, rfl, ?_⟩
     refine hK.out _ _ (cx BK265) (fun hHeld => ?_)
     clear hK K
     refine nm ?_
     refine pu 6 11 (bl 30 127) ?_
     refine pu 7 12 (bl 30 255) ?_
     refine pu 8 13 (bl 30 511) ?_
     refine pu 9 14 (bl 30 1023) ?_
     refine pu 12 17 (bl 30 5119) ?_
     refine pu 15 20 (bl 30 37887) ?_
     refine tk 10 15 (bl 30 38911) ?_
     refine pu 11 16 (bl 30 40959) ?_
     refine tk 13 18 (bl 30 49151) ?_
     refine pu 14 19 (bl 30 65535) ?_
     refine pu 16 21 (bl 30 131071) ?_
     refine pu 17 22 (bl 30 262143) ?_
     refine pu 18 23 (bl 30 524287) ?_
     refine pf 19 24 (bl 30 1048575) ?_
     refine pf 20 25 (bl 30 2097151) ?_
     refine pf 21 26 (bl 30 4194303) ?_
     refine pf 22 27 (bl 30 8388607) ?_
     refine pf 23 28 (bl 30 16777215) ?_
     refine pf 24 29 (bl 30 33554431) ?_
     refine pf 25 30 (bl 30 67108863) ?_
     refine pf 26 31 (bl 30 134217727) ?_
     refine pf 27 32 (bl 30 268435455) ?_
     refine pu 28 33 (bl 30 536870911) ?_
     refine pu 29 4 (bl 30 1073741823) ?_
     refine dn ?_ _
     try go_wp2
     go_ret
     exact ⟨by first | exact rt1 | (simp only [← hji7, ← hji9]; exact rt1) | exact rt, bw⟩
   ·rw [if_neg c6] at H
    exact absurd H (by simp)
  ·obtain rfl := Option.some.inj H
   go_enter Tryd.func114, Tryd.ntmps114
   try go_wp2_with (first | ((with_reducible refine gd 2 ?_); refine bx 2 91 #[.int .i64 a0_0, .int .i64 a0_1, .int .u32 a0_2, .int .i64 a0_3] ?_; clear HB; intro gb265 w18 hg BK265 hb GE265 HB; clear hb hg))
   replace BK265 := bd BK265
   replace HB := hd HB
   refine st 30 (fun w' => CA w' gb265 0 [.int .i64 a0_0, .int .i64 a0_1, .int .u32 a0_2, .int .i64 a0_3]) [] (cx BK265) impl_startsBlock.tab1 impl_startsBlock.bits1 ?_; intro hHeld HT_ HW_
   generalize w18.drew = w19 at BK265 HB hHeld ⊢
   refine pu 0 5 (bl 30 1) ?_
   refine tk 1 6 (bl 30 3) ?_
   refine pu 2 7 (bl 30 7) ?_
   refine pu 3 8 (bl 30 15) ?_
   refine pu 4 9 (bl 30 31) ?_
   refine on_ 5 (some 10) (bl 30 63) (fun K hK => ?_)
   refine gq Tryd.func72 (impl_within.calls _ _ _ _ _ A4.out) ?_
   rintro e w' ⟨rfl, ⟨nd, rfl⟩⟩
   refine ⟨_, rfl, ?_⟩
   refine hK.out _ _ (cx BK265) (fun hHeld => ?_)
   clear hK K
   refine nm ?_
   refine pu 6 11 (bl 30 127) ?_
   refine pu 7 12 (bl 30 255) ?_
   refine pf 8 13 (bl 30 511) ?_
   refine pf 9 14 (bl 30 1023) ?_
   refine pf 10 15 (bl 30 2047) ?_
   refine pf 11 16 (bl 30 4095) ?_
   refine pf 12 17 (bl 30 8191) ?_
   refine pf 13 18 (bl 30 16383) ?_
   refine pf 14 19 (bl 30 32767) ?_
   refine pf 15 20 (bl 30 65535) ?_
   refine pf 16 21 (bl 30 131071) ?_
   refine pu 17 22 (bl 30 262143) ?_
   refine pu 18 23 (bl 30 524287) ?_
   refine pf 19 24 (bl 30 1048575) ?_
   refine pf 20 25 (bl 30 2097151) ?_
   refine pf 21 26 (bl 30 4194303) ?_
   refine pf 22 27 (bl 30 8388607) ?_
   refine pf 23 28 (bl 30 16777215) ?_
   refine pf 24 29 (bl 30 33554431) ?_
   refine pf 25 30 (bl 30 67108863) ?_
   refine pf 26 31 (bl 30 134217727) ?_
   refine pf 27 32 (bl 30 268435455) ?_
   refine pu 28 33 (bl 30 536870911) ?_
   refine pu 29 4 (bl 30 1073741823) ?_
   refine dn ?_ _
   try go_wp2
   go_ret
   exact ⟨rt, bw⟩
 ·obtain rfl := Option.some.inj H
  go_enter Tryd.func114, Tryd.ntmps114
  try go_wp2_with (first | ((with_reducible refine gd 2 ?_); refine bx 2 91 #[.int .i64 a0_0, .int .i64 a0_1, .int .u32 a0_2, .int .i64 a0_3] ?_; clear HB; intro gb265 w20 hg BK265 hb GE265 HB; clear hb hg))
  replace BK265 := bd BK265
  replace HB := hd HB
  refine st 30 (fun w' => CA w' gb265 0 [.int .i64 a0_0, .int .i64 a0_1, .int .u32 a0_2, .int .i64 a0_3]) [] (cx BK265) impl_startsBlock.tab1 impl_startsBlock.bits1 ?_; intro hHeld HT_ HW_
  generalize w20.drew = w21 at BK265 HB hHeld ⊢
  refine pu 0 5 (bl 30 1) ?_
  refine tk 1 6 (bl 30 3) ?_
  refine pu 2 7 (bl 30 7) ?_
  refine pu 3 8 (bl 30 15) ?_
  refine pf 4 9 (bl 30 31) ?_
  refine pf 5 10 (bl 30 63) ?_
  refine pu 6 11 (bl 30 127) ?_
  refine pu 7 12 (bl 30 255) ?_
  refine pf 8 13 (bl 30 511) ?_
  refine pf 9 14 (bl 30 1023) ?_
  refine pf 10 15 (bl 30 2047) ?_
  refine pf 11 16 (bl 30 4095) ?_
  refine pf 12 17 (bl 30 8191) ?_
  refine pf 13 18 (bl 30 16383) ?_
  refine pf 14 19 (bl 30 32767) ?_
  refine pf 15 20 (bl 30 65535) ?_
  refine pf 16 21 (bl 30 131071) ?_
  refine pu 17 22 (bl 30 262143) ?_
  refine pu 18 23 (bl 30 524287) ?_
  refine pf 19 24 (bl 30 1048575) ?_
  refine pf 20 25 (bl 30 2097151) ?_
  refine pf 21 26 (bl 30 4194303) ?_
  refine pf 22 27 (bl 30 8388607) ?_
  refine pf 23 28 (bl 30 16777215) ?_
  refine pf 24 29 (bl 30 33554431) ?_
  refine pf 25 30 (bl 30 67108863) ?_
  refine pf 26 31 (bl 30 134217727) ?_
  refine pf 27 32 (bl 30 268435455) ?_
  refine pu 28 33 (bl 30 536870911) ?_
  refine pu 29 4 (bl 30 1073741823) ?_
  refine dn ?_ _
  try go_wp2
  go_ret
  exact ⟨rt, bw⟩

end Go.Proofs.YtfhcnnkeokjfpaaDoor.PM1
namespace Go.Proofs.YtfhcnnkeokjfpaaDoor.PM1
open Go.RowKit Go.Proofs.YtfhcnnkeokjfpaaDoorW.PrintWords Go.Proofs.YtfhcnnkeokjfpaaDoorW.PrintLast Go.Proofs.YtfhcnnkeokjfpaaDoorW.PrintMore Go.Proofs.YtfhcnnkeokjfpaaDoor.T
attribute [local go_sem] max2_int min2_int max_two min_two max_three min_three max_four min_four   -- for this text's walks alone
set_option linter.unusedVariables false
set_option linter.unusedSimpArgs false

/-! ### impl_mayGive: function 102 -/
def impl_mayGive.f (k : Nat) (a0 : Int) (a1 : Int) : Option (Bool) := (impl_CtlRead.f k a0).bind fun bt267 => (if bt267.2.2.2.2 = true then ((impl_startsBlock.f bt267.1 bt267.2.1 bt267.2.2.1 bt267.2.2.2.1 a1).bind fun t273 => (if t273 = true then (some true) else (if bt267.1 = 2 then (some (a1 == 0)) else (some false)))) else (some false))
theorem impl_mayGive.mono : ∀ a0 a1 k, LeO (impl_mayGive.f k a0 a1) (impl_mayGive.f (k + 1) a0 a1) := by
 intro a0 a1 k
 unfold impl_mayGive.f
 repeat' first
  | (with_reducible first | exact impl_CtlRead.mono .. | exact LeO.refl _ | exact LeO.none _ | refine LeO.ite ?_ ?_ | refine LeO.bind ?_ (fun _ => ?_))
  | exact LeO.none _ | refine LeO.ite ?_ ?_ | refine LeO.bind ?_ (fun _ => ?_)
set_option maxHeartbeats 8000000 in
set_option maxRecDepth 100000 in
theorem impl_mayGive.calls (k : Nat) (a0 : Int) (a1 : Int) (r : Bool) (w : World) (h : impl_mayGive.f k a0 a1 = some r) :
  Calls Tryd.prog 102 #[.int .u32 a0, .int .i64 a1] w fun e w' => e = .returned (.bool r) ∧ Below w.heap.size w w' := by
 have hu91 := Tryd.underlying91
 have HB := Aside0.mk (Below.refl w.heap.size w)
 unfold impl_mayGive.f at h
 have H := h
 clear h
 replace H := bn H
 obtain ⟨⟨t267, t268, t269, t270, t271⟩, A3, H⟩ := H
 try dsimp only at H
 replace H := ib H
 rcases H with ⟨rfl, H⟩ | ⟨rfl, H⟩
 ·replace H := bn H
  obtain ⟨t273, A5, H⟩ := H
  try dsimp only at H
  replace H := ib H
  rcases H with ⟨rfl, H⟩ | ⟨rfl, H⟩
  ·obtain rfl := Option.some.inj H
   go_enter Tryd.func102, Tryd.ntmps102
   go_wp2_with (first | ((with_reducible refine gf 96 ?_); refine gc Tryd.func96 (some 9) (impl_CtlRead.calls _ _ _ _ _ _ _ _ A3.out) ?_; rintro e w7 ⟨rfl, hb⟩; refine ⟨_, rfl, ?_⟩; replace HB := hs hb; try clear hb) | ((with_reducible refine gd 5 ?_); refine bx 5 91 #[.int .i64 0, .int .i64 0, .int .u32 0, .int .i64 0] ?_; clear HB; intro gb272 w8 hg BK272 hb GE272 HB; clear hb hg; obtain ⟨z9_0, z9_1, z9_2, z9_3⟩ := ca4 BK272; obtain ⟨f9_0, f9_1, f9_2, f9_3⟩ := fa4 BK272) | (go_at_call 114; (with_reducible refine (impl_startsBlock.calls _ _ _ _ _ _ _ A5.out).mono ?_); rintro e w10 ⟨rfl, hb⟩; replace BK272 := bq BK272 #[.int .i64 t267, .int .i64 t268, .int .u32 t269, .int .i64 t270] hb; replace HB := hs hb; try clear hb))
   go_ret
   exact ⟨rt, bw⟩
  ·replace H := ieq H
   rcases H with ⟨c11b0, c11b1, H⟩ | ⟨c11, c11b0, c11b1, H⟩
   ·obtain rfl := Option.some.inj H
    go_enter Tryd.func102, Tryd.ntmps102
    go_wp2_with (first | ((with_reducible refine gf 96 ?_); refine gc Tryd.func96 (some 9) (impl_CtlRead.calls _ _ _ _ _ _ _ _ A3.out) ?_; rintro e w12 ⟨rfl, hb⟩; refine ⟨_, rfl, ?_⟩; replace HB := hs hb; try clear hb) | ((with_reducible refine gd 5 ?_); refine bx 5 91 #[.int .i64 0, .int .i64 0, .int .u32 0, .int .i64 0] ?_; clear HB; intro gb272 w13 hg BK272 hb GE272 HB; clear hb hg; obtain ⟨z14_0, z14_1, z14_2, z14_3⟩ := ca4 BK272; obtain ⟨f14_0, f14_1, f14_2, f14_3⟩ := fa4 BK272) | (go_at_call 114; (with_reducible refine (impl_startsBlock.calls _ _ _ _ _ _ _ A5.out).mono ?_); rintro e w15 ⟨rfl, hb⟩; replace BK272 := bq BK272 #[.int .i64 t267, .int .i64 t268, .int .u32 t269, .int .i64 t270] hb; replace HB := hs hb; try clear hb; obtain ⟨z16_0, z16_1, z16_2, z16_3⟩ := ca4 BK272; obtain ⟨f16_0, f16_1, f16_2, f16_3⟩ := fa4 BK272))
    go_ret
    exact ⟨rt, bw⟩
   ·obtain rfl := Option.some.inj H
    go_enter Tryd.func102, Tryd.ntmps102
    go_wp2_with (first | ((with_reducible refine gf 96 ?_); refine gc Tryd.func96 (some 9) (impl_CtlRead.calls _ _ _ _ _ _ _ _ A3.out) ?_; rintro e w17 ⟨rfl, hb⟩; refine ⟨_, rfl, ?_⟩; replace HB := hs hb; try clear hb) | ((with_reducible refine gd 5 ?_); refine bx 5 91 #[.int .i64 0, .int .i64 0, .int .u32 0, .int .i64 0] ?_; clear HB; intro gb272 w18 hg BK272 hb GE272 HB; clear hb hg; obtain ⟨z19_0, z19_1, z19_2, z19_3⟩ := ca4 BK272; obtain ⟨f19_0, f19_1, f19_2, f19_3⟩ := fa4 BK272) | (go_at_call 114; (with_reducible refine (impl_startsBlock.calls _ _ _ _ _ _ _ A5.out).mono ?_); rintro e w20 ⟨rfl, hb⟩; replace BK272 := bq BK272 #[.int .i64 t267, .int .i64 t268, .int .u32 t269, .int .i64 t270] hb; replace HB := hs hb; try clear hb; obtain ⟨z21_0, z21_1, z21_2, z21_3⟩ := ca4 BK272; obtain ⟨f21_0, f21_1, f21_2, f21_3⟩ := fa4 BK272))
    go_ret
    exact ⟨rt, bw⟩
 ·obtain rfl := Option.some.inj H
  go_enter Tryd.func102, Tryd.ntmps102
  go_wp2_with (first | ((with_reducible refine gf 96 ?_); refine gc Tryd.func96 (some 9) (impl_CtlRead.calls _ _ _ _ _ _ _ _ A3.out) ?_; rintro e w22 ⟨rfl, hb⟩; refine ⟨_, rfl, ?_⟩; replace HB := hs hb; try clear hb) | ((with_reducible refine gd 5 ?_); refine bx 5 91 #[.int .i64 0, .int .i64 0, .int .u32 0, .int .i64 0] ?_; clear HB; intro gb272 w23 hg BK272 hb GE272 HB; clear hb hg; obtain ⟨z24_0, z24_1, z24_2, z24_3⟩ := ca4 BK272; obtain ⟨f24_0, f24_1, f24_2, f24_3⟩ := fa4 BK272))
  go_ret
  exact ⟨rt, bw⟩

/-! ### bits_Len32: function 116 -/
def bits_Len32.f (a0 : Int) : Option (Int) := if a0 ≥ 65536 then (if (a0 / 65536) ≥ 256 then (if 0 ≤ (((a0 / 65536) / 256) % 256) then (if (((a0 / 65536) / 256) % 256) < 256 then (some (wrap64 ((16 + 8) + (wrap64 (bt (⟨#[0, 1, 2, 2, 3, 3, 3, 3, 4, 4, 4, 4, 4, 4, 4, 4, 5, 5, 5, 5, 5, 5, 5, 5, 5, 5, 5, 5, 5, 5, 5, 5, 6, 6, 6, 6, 6, 6, 6, 6, 6, 6, 6, 6, 6, 6, 6, 6, 6, 6, 6, 6, 6, 6, 6, 6, 6, 6, 6, 6, 6, 6, 6, 6, 7, 7, 7, 7, 7, 7, 7, 7, 7, 7, 7, 7, 7, 7, 7, 7, 7, 7, 7, 7, 7, 7, 7, 7, 7, 7, 7, 7, 7, 7, 7, 7, 7, 7, 7, 7, 7, 7, 7, 7, 7, 7, 7, 7, 7, 7, 7, 7, 7, 7, 7, 7, 7, 7, 7, 7, 7, 7, 7, 7, 7, 7, 7, 7, 8, 8, 8, 8, 8, 8, 8, 8, 8, 8, 8, 8, 8, 8, 8, 8, 8, 8, 8, 8, 8, 8, 8, 8, 8, 8, 8, 8, 8, 8, 8, 8, 8, 8, 8, 8, 8, 8, 8, 8, 8, 8, 8, 8, 8, 8, 8, 8, 8, 8, 8, 8, 8, 8, 8, 8, 8, 8, 8, 8, 8, 8, 8, 8, 8, 8, 8, 8, 8, 8, 8, 8, 8, 8, 8, 8, 8, 8, 8, 8, 8, 8, 8, 8, 8, 8, 8, 8, 8, 8, 8, 8, 8, 8, 8, 8, 8, 8, 8, 8, 8, 8, 8, 8, 8, 8, 8, 8, 8, 8, 8, 8, 8, 8, 8, 8, 8, 8, 8, 8, 8, 8, 8, 8, 8, 8, 8, 8]⟩ : ByteArray) (((a0 / 65536) / 256) % 256)))))) else (none)) else (none)) else (if 0 ≤ ((a0 / 65536) % 256) then (if ((a0 / 65536) % 256) < 256 then (some (wrap64 (16 + (wrap64 (bt (⟨#[0, 1, 2, 2, 3, 3, 3, 3, 4, 4, 4, 4, 4, 4, 4, 4, 5, 5, 5, 5, 5, 5, 5, 5, 5, 5, 5, 5, 5, 5, 5, 5, 6, 6, 6, 6, 6, 6, 6, 6, 6, 6, 6, 6, 6, 6, 6, 6, 6, 6, 6, 6, 6, 6, 6, 6, 6, 6, 6, 6, 6, 6, 6, 6, 7, 7, 7, 7, 7, 7, 7, 7, 7, 7, 7, 7, 7, 7, 7, 7, 7, 7, 7, 7, 7, 7, 7, 7, 7, 7, 7, 7, 7, 7, 7, 7, 7, 7, 7, 7, 7, 7, 7, 7, 7, 7, 7, 7, 7, 7, 7, 7, 7, 7, 7, 7, 7, 7, 7, 7, 7, 7, 7, 7, 7, 7, 7, 7, 8, 8, 8, 8, 8, 8, 8, 8, 8, 8, 8, 8, 8, 8, 8, 8, 8, 8, 8, 8, 8, 8, 8, 8, 8, 8, 8, 8, 8, 8, 8, 8, 8, 8, 8, 8, 8, 8, 8, 8, 8, 8, 8, 8, 8, 8, 8, 8, 8, 8, 8, 8, 8, 8, 8, 8, 8, 8, 8, 8, 8, 8, 8, 8, 8, 8, 8, 8, 8, 8, 8, 8, 8, 8, 8, 8, 8, 8, 8, 8, 8, 8, 8, 8, 8, 8, 8, 8, 8, 8, 8, 8, 8, 8, 8, 8, 8, 8, 8, 8, 8, 8, 8, 8, 8, 8, 8, 8, 8, 8, 8, 8, 8, 8, 8, 8, 8, 8, 8, 8, 8, 8, 8, 8, 8, 8, 8, 8]⟩ : ByteArray) ((a0 / 65536) % 256)))))) else (none)) else (none))) else (if a0 ≥ 256 then (if 0 ≤ ((a0 / 256) % 256) then (if ((a0 / 256) % 256) < 256 then (some (wrap64 ((0 + 8) + (wrap64 (bt (⟨#[0, 1, 2, 2, 3, 3, 3, 3, 4, 4, 4, 4, 4, 4, 4, 4, 5, 5, 5, 5, 5, 5, 5, 5, 5, 5, 5, 5, 5, 5, 5, 5, 6, 6, 6, 6, 6, 6, 6, 6, 6, 6, 6, 6, 6, 6, 6, 6, 6, 6, 6, 6, 6, 6, 6, 6, 6, 6, 6, 6, 6, 6, 6, 6, 7, 7, 7, 7, 7, 7, 7, 7, 7, 7, 7, 7, 7, 7, 7, 7, 7, 7, 7, 7, 7, 7, 7, 7, 7, 7, 7, 7, 7, 7, 7, 7, 7, 7, 7, 7, 7, 7, 7, 7, 7, 7, 7, 7, 7, 7, 7, 7, 7, 7, 7, 7, 7, 7, 7, 7, 7, 7, 7, 7, 7, 7, 7, 7, 8, 8, 8, 8, 8, 8, 8, 8, 8, 8, 8, 8, 8, 8, 8, 8, 8, 8, 8, 8, 8, 8, 8, 8, 8, 8, 8, 8, 8, 8, 8, 8, 8, 8, 8, 8, 8, 8, 8, 8, 8, 8, 8, 8, 8, 8, 8, 8, 8, 8, 8, 8, 8, 8, 8, 8, 8, 8, 8, 8, 8, 8, 8, 8, 8, 8, 8, 8, 8, 8, 8, 8, 8, 8, 8, 8, 8, 8, 8, 8, 8, 8, 8, 8, 8, 8, 8, 8, 8, 8, 8, 8, 8, 8, 8, 8, 8, 8, 8, 8, 8, 8, 8, 8, 8, 8, 8, 8, 8, 8, 8, 8, 8, 8, 8, 8, 8, 8, 8, 8, 8, 8, 8, 8, 8, 8, 8, 8]⟩ : ByteArray) ((a0 / 256) % 256)))))) else (none)) else (none)) else (if 0 ≤ ((a0) % 256) then (if ((a0) % 256) < 256 then (some (wrap64 (0 + (wrap64 (bt (⟨#[0, 1, 2, 2, 3, 3, 3, 3, 4, 4, 4, 4, 4, 4, 4, 4, 5, 5, 5, 5, 5, 5, 5, 5, 5, 5, 5, 5, 5, 5, 5, 5, 6, 6, 6, 6, 6, 6, 6, 6, 6, 6, 6, 6, 6, 6, 6, 6, 6, 6, 6, 6, 6, 6, 6, 6, 6, 6, 6, 6, 6, 6, 6, 6, 7, 7, 7, 7, 7, 7, 7, 7, 7, 7, 7, 7, 7, 7, 7, 7, 7, 7, 7, 7, 7, 7, 7, 7, 7, 7, 7, 7, 7, 7, 7, 7, 7, 7, 7, 7, 7, 7, 7, 7, 7, 7, 7, 7, 7, 7, 7, 7, 7, 7, 7, 7, 7, 7, 7, 7, 7, 7, 7, 7, 7, 7, 7, 7, 8, 8, 8, 8, 8, 8, 8, 8, 8, 8, 8, 8, 8, 8, 8, 8, 8, 8, 8, 8, 8, 8, 8, 8, 8, 8, 8, 8, 8, 8, 8, 8, 8, 8, 8, 8, 8, 8, 8, 8, 8, 8, 8, 8, 8, 8, 8, 8, 8, 8, 8, 8, 8, 8, 8, 8, 8, 8, 8, 8, 8, 8, 8, 8, 8, 8, 8, 8, 8, 8, 8, 8, 8, 8, 8, 8, 8, 8, 8, 8, 8, 8, 8, 8, 8, 8, 8, 8, 8, 8, 8, 8, 8, 8, 8, 8, 8, 8, 8, 8, 8, 8, 8, 8, 8, 8, 8, 8, 8, 8, 8, 8, 8, 8, 8, 8, 8, 8, 8, 8, 8, 8, 8, 8, 8, 8, 8, 8]⟩ : ByteArray) ((a0) % 256)))))) else (none)) else (none)))
set_option maxHeartbeats 8000000 in
set_option maxRecDepth 100000 in
theorem bits_Len32.calls (a0 : Int) (r : Int) (w : World) (h : bits_Len32.f a0 = some r) :
  Calls Tryd.prog 116 #[.int .u32 a0] w fun e w' => e = .returned (.int .i64 r) ∧ Drawn0 w w' := by
 unfold bits_Len32.f at h
 have H := h
 clear h
 replace H := ige H
 rcases H with ⟨c2b0, H⟩ | ⟨c2b0, H⟩
 ·replace H := ige H
  rcases H with ⟨c3b0, H⟩ | ⟨c3b0, H⟩
  ·obtain ⟨ji4, hji4⟩ : ∃ j_ : Int, (((a0 / 65536) / 256) % 256) = j_ := ⟨_, rfl⟩
   first | rw [hji4] at H | simp only [hji4] at H
   by_cases c5 : 0 ≤ (ji4)
   ·rw [if_pos c5] at H
    have c5b0 : decide (0 ≤ (ji4)) = true := decide_eq_true c5
    clear c5
    by_cases c6 : (ji4) < 256
    ·rw [if_pos c6] at H
     have c6b0 : decide ((ji4) < 256) = true := decide_eq_true c6
     clear c6
     obtain rfl := Option.some.inj H
     have p7 : 0 ≤ ((ji4) : Int) := of_decide_eq_true as_
     have q7 : (ji4) < (256 : Int) := of_decide_eq_true as_
     have hx7 := bt_at (⟨#[0, 1, 2, 2, 3, 3, 3, 3, 4, 4, 4, 4, 4, 4, 4, 4, 5, 5, 5, 5, 5, 5, 5, 5, 5, 5, 5, 5, 5, 5, 5, 5, 6, 6, 6, 6, 6, 6, 6, 6, 6, 6, 6, 6, 6, 6, 6, 6, 6, 6, 6, 6, 6, 6, 6, 6, 6, 6, 6, 6, 6, 6, 6, 6, 7, 7, 7, 7, 7, 7, 7, 7, 7, 7, 7, 7, 7, 7, 7, 7, 7, 7, 7, 7, 7, 7, 7, 7, 7, 7, 7, 7, 7, 7, 7, 7, 7, 7, 7, 7, 7, 7, 7, 7, 7, 7, 7, 7, 7, 7, 7, 7, 7, 7, 7, 7, 7, 7, 7, 7, 7, 7, 7, 7, 7, 7, 7, 7, 8, 8, 8, 8, 8, 8, 8, 8, 8, 8, 8, 8, 8, 8, 8, 8, 8, 8, 8, 8, 8, 8, 8, 8, 8, 8, 8, 8, 8, 8, 8, 8, 8, 8, 8, 8, 8, 8, 8, 8, 8, 8, 8, 8, 8, 8, 8, 8, 8, 8, 8, 8, 8, 8, 8, 8, 8, 8, 8, 8, 8, 8, 8, 8, 8, 8, 8, 8, 8, 8, 8, 8, 8, 8, 8, 8, 8, 8, 8, 8, 8, 8, 8, 8, 8, 8, 8, 8, 8, 8, 8, 8, 8, 8, 8, 8, 8, 8, 8, 8, 8, 8, 8, 8, 8, 8, 8, 8, 8, 8, 8, 8, 8, 8, 8, 8, 8, 8, 8, 8, 8, 8, 8, 8, 8, 8, 8, 8]⟩ : ByteArray) (ji4)
     replace p7 := eq_true p7
     replace q7 := eq_true q7
     go_enter Tryd.func116, Tryd.ntmps116
     go_wp2
     go_ret
     exact ⟨by first | rfl | (simp; done) | (simp only [← hji4] <;> (first | rfl | simp)) | (simp [*]; done), dr⟩
    ·rw [if_neg c6] at H
     exact absurd H (by simp)
   ·rw [if_neg c5] at H
    exact absurd H (by simp)
  ·obtain ⟨ji8, hji8⟩ : ∃ j_ : Int, ((a0 / 65536) % 256) = j_ := ⟨_, rfl⟩
   first | rw [hji8] at H | simp only [hji8] at H
   by_cases c9 : 0 ≤ (ji8)
   ·rw [if_pos c9] at H
    have c9b0 : decide (0 ≤ (ji8)) = true := decide_eq_true c9
    clear c9
    by_cases c10 : (ji8) < 256
    ·rw [if_pos c10] at H
     have c10b0 : decide ((ji8) < 256) = true := decide_eq_true c10
     clear c10
     obtain rfl := Option.some.inj H
     have p11 : 0 ≤ ((ji8) : Int) := of_decide_eq_true as_
     have q11 : (ji8) < (256 : Int) := of_decide_eq_true as_
     have hx11 := bt_at (⟨#[0, 1, 2, 2, 3, 3, 3, 3, 4, 4, 4, 4, 4, 4, 4, 4, 5, 5, 5, 5, 5, 5, 5, 5, 5, 5, 5, 5, 5, 5, 5, 5, 6, 6, 6, 6, 6, 6, 6, 6, 6, 6, 6, 6, 6, 6, 6, 6, 6, 6, 6, 6, 6, 6, 6, 6, 6, 6, 6, 6, 6, 6, 6, 6, 7, 7, 7, 7, 7, 7, 7, 7, 7, 7, 7, 7, 7, 7, 7, 7, 7, 7, 7, 7, 7, 7, 7, 7, 7, 7, 7, 7, 7, 7, 7, 7, 7, 7, 7, 7, 7, 7, 7, 7, 7, 7, 7, 7, 7, 7, 7, 7, 7, 7, 7, 7, 7, 7, 7, 7, 7, 7, 7, 7, 7, 7, 7, 7, 8, 8, 8, 8, 8, 8, 8, 8, 8, 8, 8, 8, 8, 8, 8, 8, 8, 8, 8, 8, 8, 8, 8, 8, 8, 8, 8, 8, 8, 8, 8, 8, 8, 8, 8, 8, 8, 8, 8, 8, 8, 8, 8, 8, 8, 8, 8, 8, 8, 8, 8, 8, 8, 8, 8, 8, 8, 8, 8, 8, 8, 8, 8, 8, 8, 8, 8, 8, 8, 8, 8, 8, 8, 8, 8, 8, 8, 8, 8, 8, 8, 8, 8, 8, 8, 8, 8, 8, 8, 8, 8, 8, 8, 8, 8, 8, 8, 8, 8, 8, 8, 8, 8, 8, 8, 8, 8, 8, 8, 8, 8, 8, 8, 8, 8, 8, 8, 8, 8, 8, 8, 8, 8, 8, 8, 8, 8, 8]⟩ : ByteArray) (ji8)
     replace p11 := eq_true p11
     replace q11 := eq_true q11
     go_enter Tryd.func116, Tryd.ntmps116
     go_wp2
     go_ret
     exact ⟨by first | rfl | (simp; done) | (simp only [← hji8] <;> (first | rfl | simp)) | (simp [*]; done), dr⟩
    ·rw [if_neg c10] at H
     exact absurd H (by simp)
   ·rw [if_neg c9] at H
    exact absurd H (by simp)
 ·replace H := ige H
  rcases H with ⟨c12b0, H⟩ | ⟨c12b0, H⟩
  ·obtain ⟨ji13, hji13⟩ : ∃ j_ : Int, ((a0 / 256) % 256) = j_ := ⟨_, rfl⟩
   first | rw [hji13] at H | simp only [hji13] at H
   by_cases c14 : 0 ≤ (ji13)
   ·rw [if_pos c14] at H
    have c14b0 : decide (0 ≤ (ji13)) = true := decide_eq_true c14
    clear c14
    by_cases c15 : (ji13) < 256
    ·rw [if_pos c15] at H
     have c15b0 : decide ((ji13) < 256) = true := decide_eq_true c15
     clear c15
     obtain rfl := Option.some.inj H
     have p16 : 0 ≤ ((ji13) : Int) := of_decide_eq_true as_
     have q16 : (ji13) < (256 : Int) := of_decide_eq_true as_
     have hx16 := bt_at (⟨#[0, 1, 2, 2, 3, 3, 3, 3, 4, 4, 4, 4, 4, 4, 4, 4, 5, 5, 5, 5, 5, 5, 5, 5, 5, 5, 5, 5, 5, 5, 5, 5, 6, 6, 6, 6, 6, 6, 6, 6, 6, 6, 6, 6, 6, 6, 6, 6, 6, 6, 6, 6, 6, 6, 6, 6, 6, 6, 6, 6, 6, 6, 6, 6, 7, 7, 7, 7, 7, 7, 7, 7, 7, 7, 7, 7, 7, 7, 7, 7, 7, 7, 7, 7, 7, 7, 7, 7, 7, 7, 7, 7, 7, 7, 7, 7, 7, 7, 7, 7, 7, 7, 7, 7, 7, 7, 7, 7, 7, 7, 7, 7, 7, 7, 7, 7, 7, 7, 7, 7, 7, 7, 7, 7, 7, 7, 7, 7, 8, 8, 8, 8, 8, 8, 8, 8, 8, 8, 8, 8, 8, 8, 8, 8, 8, 8, 8, 8, 8, 8, 8, 8, 8, 8, 8, 8, 8, 8, 8, 8, 8, 8, 8, 8, 8, 8, 8, 8, 8, 8, 8, 8, 8, 8, 8, 8, 8, 8, 8, 8, 8, 8, 8, 8, 8, 8, 8, 8, 8, 8, 8, 8, 8, 8, 8, 8, 8, 8, 8, 8, 8, 8, 8, 8, 8, 8, 8, 8, 8, 8, 8, 8, 8, 8, 8, 8, 8, 8, 8, 8, 8, 8, 8, 8, 8, 8, 8, 8, 8, 8, 8, 8, 8, 8, 8, 8, 8, 8, 8, 8, 8, 8, 8, 8, 8, 8, 8, 8, 8, 8, 8, 8, 8, 8, 8, 8]⟩ : ByteArray) (ji13)
     replace p16 := eq_true p16
     replace q16 := eq_true q16
     go_enter Tryd.func116, Tryd.ntmps116
     go_wp2
     go_ret
     exact ⟨by first | rfl | (simp; done) | (simp only [← hji13] <;> (first | rfl | simp)) | (simp [*]; done), dr⟩
    ·rw [if_neg c15] at H
     exact absurd H (by simp)
   ·rw [if_neg c14] at H
    exact absurd H (by simp)
  ·obtain ⟨ji17, hji17⟩ : ∃ j_ : Int, ((a0) % 256) = j_ := ⟨_, rfl⟩
   first | rw [hji17] at H | simp only [hji17] at H
   by_cases c18 : 0 ≤ (ji17)
   ·rw [if_pos c18] at H
    have c18b0 : decide (0 ≤ (ji17)) = true := decide_eq_true c18
    clear c18
    by_cases c19 : (ji17) < 256
    ·rw [if_pos c19] at H
     have c19b0 : decide ((ji17) < 256) = true := decide_eq_true c19
     clear c19
     obtain rfl := Option.some.inj H
     have p20 : 0 ≤ ((ji17) : Int) := of_decide_eq_true as_
     have q20 : (ji17) < (256 : Int) := of_decide_eq_true as_
     have hx20 := bt_at (⟨#[0, 1, 2, 2, 3, 3, 3, 3, 4, 4, 4, 4, 4, 4, 4, 4, 5, 5, 5, 5, 5, 5, 5, 5, 5, 5, 5, 5, 5, 5, 5, 5, 6, 6, 6, 6, 6, 6, 6, 6, 6, 6, 6, 6, 6, 6, 6, 6, 6, 6, 6, 6, 6, 6, 6, 6, 6, 6, 6, 6, 6, 6, 6, 6, 7, 7, 7, 7, 7, 7, 7, 7, 7, 7, 7, 7, 7, 7, 7, 7, 7, 7, 7, 7, 7, 7, 7, 7, 7, 7, 7, 7, 7, 7, 7, 7, 7, 7, 7, 7, 7, 7, 7, 7, 7, 7, 7, 7, 7, 7, 7, 7, 7, 7, 7, 7, 7, 7, 7, 7, 7, 7, 7, 7, 7, 7, 7, 7, 8, 8, 8, 8, 8, 8, 8, 8, 8, 8, 8, 8, 8, 8, 8, 8, 8, 8, 8, 8, 8, 8, 8, 8, 8, 8, 8, 8, 8, 8, 8, 8, 8, 8, 8, 8, 8, 8, 8, 8, 8, 8, 8, 8, 8, 8, 8, 8, 8, 8, 8, 8, 8, 8, 8, 8, 8, 8, 8, 8, 8, 8, 8, 8, 8, 8, 8, 8, 8, 8, 8, 8, 8, 8, 8, 8, 8, 8, 8, 8, 8, 8, 8, 8, 8, 8, 8, 8, 8, 8, 8, 8, 8, 8, 8, 8, 8, 8, 8, 8, 8, 8, 8, 8, 8, 8, 8, 8, 8, 8, 8, 8, 8, 8, 8, 8, 8, 8, 8, 8, 8, 8, 8, 8, 8, 8, 8, 8]⟩ : ByteArray) (ji17)
     replace p20 := eq_true p20
     replace q20 := eq_true q20
     go_enter Tryd.func116, Tryd.ntmps116
     go_wp2
     go_ret
     exact ⟨by first | rfl | (simp; done) | (simp only [← hji17] <;> (first | rfl | simp)) | (simp [*]; done), dr⟩
    ·rw [if_neg c19] at H
     exact absurd H (by simp)
   ·rw [if_neg c18] at H
    exact absurd H (by simp)

/-! ### bits_Len64: function 117 -/
def bits_Len64.j0 : Nat → Int → Int → Option (Int)
 | 0, _, _ => none
 | k + 1, x0, x2 => if x0 ≥ 65536 then (if (x0 / 65536) ≥ 256 then (if 0 ≤ (((x0 / 65536) / 256) % 256) then (if (((x0 / 65536) / 256) % 256) < 256 then (some (wrap64 ((wrap64 ((wrap64 (x2 + 16)) + 8)) + (wrap64 (bt (⟨#[0, 1, 2, 2, 3, 3, 3, 3, 4, 4, 4, 4, 4, 4, 4, 4, 5, 5, 5, 5, 5, 5, 5, 5, 5, 5, 5, 5, 5, 5, 5, 5, 6, 6, 6, 6, 6, 6, 6, 6, 6, 6, 6, 6, 6, 6, 6, 6, 6, 6, 6, 6, 6, 6, 6, 6, 6, 6, 6, 6, 6, 6, 6, 6, 7, 7, 7, 7, 7, 7, 7, 7, 7, 7, 7, 7, 7, 7, 7, 7, 7, 7, 7, 7, 7, 7, 7, 7, 7, 7, 7, 7, 7, 7, 7, 7, 7, 7, 7, 7, 7, 7, 7, 7, 7, 7, 7, 7, 7, 7, 7, 7, 7, 7, 7, 7, 7, 7, 7, 7, 7, 7, 7, 7, 7, 7, 7, 7, 8, 8, 8, 8, 8, 8, 8, 8, 8, 8, 8, 8, 8, 8, 8, 8, 8, 8, 8, 8, 8, 8, 8, 8, 8, 8, 8, 8, 8, 8, 8, 8, 8, 8, 8, 8, 8, 8, 8, 8, 8, 8, 8, 8, 8, 8, 8, 8, 8, 8, 8, 8, 8, 8, 8, 8, 8, 8, 8, 8, 8, 8, 8, 8, 8, 8, 8, 8, 8, 8, 8, 8, 8, 8, 8, 8, 8, 8, 8, 8, 8, 8, 8, 8, 8, 8, 8, 8, 8, 8, 8, 8, 8, 8, 8, 8, 8, 8, 8, 8, 8, 8, 8, 8, 8, 8, 8, 8, 8, 8, 8, 8, 8, 8, 8, 8, 8, 8, 8, 8, 8, 8, 8, 8, 8, 8, 8, 8]⟩ : ByteArray) (((x0 / 65536) / 256) % 256)))))) else (none)) else (none)) else (if 0 ≤ ((x0 / 65536) % 256) then (if ((x0 / 65536) % 256) < 256 then (some (wrap64 ((wrap64 (x2 + 16)) + (wrap64 (bt (⟨#[0, 1, 2, 2, 3, 3, 3, 3, 4, 4, 4, 4, 4, 4, 4, 4, 5, 5, 5, 5, 5, 5, 5, 5, 5, 5, 5, 5, 5, 5, 5, 5, 6, 6, 6, 6, 6, 6, 6, 6, 6, 6, 6, 6, 6, 6, 6, 6, 6, 6, 6, 6, 6, 6, 6, 6, 6, 6, 6, 6, 6, 6, 6, 6, 7, 7, 7, 7, 7, 7, 7, 7, 7, 7, 7, 7, 7, 7, 7, 7, 7, 7, 7, 7, 7, 7, 7, 7, 7, 7, 7, 7, 7, 7, 7, 7, 7, 7, 7, 7, 7, 7, 7, 7, 7, 7, 7, 7, 7, 7, 7, 7, 7, 7, 7, 7, 7, 7, 7, 7, 7, 7, 7, 7, 7, 7, 7, 7, 8, 8, 8, 8, 8, 8, 8, 8, 8, 8, 8, 8, 8, 8, 8, 8, 8, 8, 8, 8, 8, 8, 8, 8, 8, 8, 8, 8, 8, 8, 8, 8, 8, 8, 8, 8, 8, 8, 8, 8, 8, 8, 8, 8, 8, 8, 8, 8, 8, 8, 8, 8, 8, 8, 8, 8, 8, 8, 8, 8, 8, 8, 8, 8, 8, 8, 8, 8, 8, 8, 8, 8, 8, 8, 8, 8, 8, 8, 8, 8, 8, 8, 8, 8, 8, 8, 8, 8, 8, 8, 8, 8, 8, 8, 8, 8, 8, 8, 8, 8, 8, 8, 8, 8, 8, 8, 8, 8, 8, 8, 8, 8, 8, 8, 8, 8, 8, 8, 8, 8, 8, 8, 8, 8, 8, 8, 8, 8]⟩ : ByteArray) ((x0 / 65536) % 256)))))) else (none)) else (none))) else (if x0 ≥ 256 then (if 0 ≤ ((x0 / 256) % 256) then (if ((x0 / 256) % 256) < 256 then (some (wrap64 ((wrap64 (x2 + 8)) + (wrap64 (bt (⟨#[0, 1, 2, 2, 3, 3, 3, 3, 4, 4, 4, 4, 4, 4, 4, 4, 5, 5, 5, 5, 5, 5, 5, 5, 5, 5, 5, 5, 5, 5, 5, 5, 6, 6, 6, 6, 6, 6, 6, 6, 6, 6, 6, 6, 6, 6, 6, 6, 6, 6, 6, 6, 6, 6, 6, 6, 6, 6, 6, 6, 6, 6, 6, 6, 7, 7, 7, 7, 7, 7, 7, 7, 7, 7, 7, 7, 7, 7, 7, 7, 7, 7, 7, 7, 7, 7, 7, 7, 7, 7, 7, 7, 7, 7, 7, 7, 7, 7, 7, 7, 7, 7, 7, 7, 7, 7, 7, 7, 7, 7, 7, 7, 7, 7, 7, 7, 7, 7, 7, 7, 7, 7, 7, 7, 7, 7, 7, 7, 8, 8, 8, 8, 8, 8, 8, 8, 8, 8, 8, 8, 8, 8, 8, 8, 8, 8, 8, 8, 8, 8, 8, 8, 8, 8, 8, 8, 8, 8, 8, 8, 8, 8, 8, 8, 8, 8, 8, 8, 8, 8, 8, 8, 8, 8, 8, 8, 8, 8, 8, 8, 8, 8, 8, 8, 8, 8, 8, 8, 8, 8, 8, 8, 8, 8, 8, 8, 8, 8, 8, 8, 8, 8, 8, 8, 8, 8, 8, 8, 8, 8, 8, 8, 8, 8, 8, 8, 8, 8, 8, 8, 8, 8, 8, 8, 8, 8, 8, 8, 8, 8, 8, 8, 8, 8, 8, 8, 8, 8, 8, 8, 8, 8, 8, 8, 8, 8, 8, 8, 8, 8, 8, 8, 8, 8, 8, 8]⟩ : ByteArray) ((x0 / 256) % 256)))))) else (none)) else (none)) else (if 0 ≤ ((x0) % 256) then (if ((x0) % 256) < 256 then (some (wrap64 (x2 + (wrap64 (bt (⟨#[0, 1, 2, 2, 3, 3, 3, 3, 4, 4, 4, 4, 4, 4, 4, 4, 5, 5, 5, 5, 5, 5, 5, 5, 5, 5, 5, 5, 5, 5, 5, 5, 6, 6, 6, 6, 6, 6, 6, 6, 6, 6, 6, 6, 6, 6, 6, 6, 6, 6, 6, 6, 6, 6, 6, 6, 6, 6, 6, 6, 6, 6, 6, 6, 7, 7, 7, 7, 7, 7, 7, 7, 7, 7, 7, 7, 7, 7, 7, 7, 7, 7, 7, 7, 7, 7, 7, 7, 7, 7, 7, 7, 7, 7, 7, 7, 7, 7, 7, 7, 7, 7, 7, 7, 7, 7, 7, 7, 7, 7, 7, 7, 7, 7, 7, 7, 7, 7, 7, 7, 7, 7, 7, 7, 7, 7, 7, 7, 8, 8, 8, 8, 8, 8, 8, 8, 8, 8, 8, 8, 8, 8, 8, 8, 8, 8, 8, 8, 8, 8, 8, 8, 8, 8, 8, 8, 8, 8, 8, 8, 8, 8, 8, 8, 8, 8, 8, 8, 8, 8, 8, 8, 8, 8, 8, 8, 8, 8, 8, 8, 8, 8, 8, 8, 8, 8, 8, 8, 8, 8, 8, 8, 8, 8, 8, 8, 8, 8, 8, 8, 8, 8, 8, 8, 8, 8, 8, 8, 8, 8, 8, 8, 8, 8, 8, 8, 8, 8, 8, 8, 8, 8, 8, 8, 8, 8, 8, 8, 8, 8, 8, 8, 8, 8, 8, 8, 8, 8, 8, 8, 8, 8, 8, 8, 8, 8, 8, 8, 8, 8, 8, 8, 8, 8, 8, 8]⟩ : ByteArray) ((x0) % 256)))))) else (none)) else (none)))
def bits_Len64.f (k : Nat) (a0 : Int) : Option (Int) := if a0 ≥ 4294967296 then (bits_Len64.j0 k (a0 / 4294967296) 32) else (bits_Len64.j0 k a0 0)
theorem bits_Len64.mono_l : ∀ k, (∀ y0 y1, LeO (bits_Len64.j0 k y0 y1) (bits_Len64.j0 (k + 1) y0 y1))
 | 0 => fun _ _ r h => by simp [bits_Len64.j0] at h
 | k + 1 => by
  have ih0 := bits_Len64.mono_l k
  ·intro y0 y1
   unfold bits_Len64.j0
   repeat' first
    | (with_reducible first | exact ih0 .. | exact LeO.refl _ | exact LeO.none _ | refine LeO.ite ?_ ?_ | refine LeO.bind ?_ (fun _ => ?_))
    | exact LeO.none _ | refine LeO.ite ?_ ?_ | refine LeO.bind ?_ (fun _ => ?_)
theorem bits_Len64.mono : ∀ a0 k, LeO (bits_Len64.f k a0) (bits_Len64.f (k + 1) a0) := by
 intro a0 k
 have ih0 := bits_Len64.mono_l k
 unfold bits_Len64.f
 repeat' first
  | (with_reducible first | exact ih0 .. | exact LeO.refl _ | exact LeO.none _ | refine LeO.ite ?_ ?_ | refine LeO.bind ?_ (fun _ => ?_))
  | exact LeO.none _ | refine LeO.ite ?_ ?_ | refine LeO.bind ?_ (fun _ => ?_)
set_option maxHeartbeats 8000000 in
set_option maxRecDepth 100000 in
theorem bits_Len64.calls (k : Nat) (a0 : Int) (r : Int) (w : World) (h : bits_Len64.f k a0 = some r) :
  Calls Tryd.prog 117 #[.int .u64 a0] w fun e w' => e = .returned (.int .i64 r) ∧ Drawn0 w w' := by
 unfold bits_Len64.f at h
 have H := h
 clear h
 have HC2 := Aside0.mk H
 clear H
 go_enter Tryd.func117, Tryd.ntmps117
 go_upto_if 4 with (fail)
 go_cut [0, 2] (fun v0 v2 wc => ∃ (kq : Nat) (x0_1 : Int) (x2_1 : Int), v0 = .int .u64 x0_1 ∧ v2 = .int .i64 x2_1 ∧ Aside0 (bits_Len64.j0 kq x0_1 x2_1 = some r) ∧ Aside0 (kq ≤ k) ∧ Drawn0 w wc)
 case first => as_aux_lemma =>
  have H := HC2.out
  clear HC2
  replace H := ige H
  rcases H with ⟨c3b0, H⟩ | ⟨c3b0, H⟩
  ·(first | rw [c3b0] | (simp only [i64_w, i32_w]; rw [c3b0]) | (simp only [c3b2, Bool.not_true, Bool.not_false]) | (simp only [c3b1, Bool.not_true, Bool.not_false]) | skip)
   have H' := Aside0.mk H
   clear H
   go_wp2
   go_meet
   case rel => exact ⟨_, (a0 / 4294967296), (32), ev, ev, H', ⟨om⟩, dr⟩
  ·(first | rw [c3b0] | (simp only [i64_w, i32_w]; rw [c3b0]) | (simp only [c3b2, Bool.not_true, Bool.not_false]) | (simp only [c3b1, Bool.not_true, Bool.not_false]) | skip)
   have H' := Aside0.mk H
   clear H
   go_wp2
   go_meet
   case rel => exact ⟨_, (a0), (0), ev, ev, H', ⟨om⟩, dr⟩
 case rest => as_aux_lemma =>
  clear HC2
  obtain ⟨kq, x0_1, x2_1, rfl, rfl, HA, HJ1, ⟨mc1, rfl⟩⟩ := hcut
  cases kq with
  | zero => exact absurd HA.out (by simp [bits_Len64.j0])
  | succ kj1 =>
   have H := HA.out
   clear HA
   simp only [bits_Len64.j0] at H
   replace H := ige H
   rcases H with ⟨c4b0, H⟩ | ⟨c4b0, H⟩
   ·replace H := ige H
    rcases H with ⟨c5b0, H⟩ | ⟨c5b0, H⟩
    ·obtain ⟨ji6, hji6⟩ : ∃ j_ : Int, (((x0_1 / 65536) / 256) % 256) = j_ := ⟨_, rfl⟩
     first | rw [hji6] at H | simp only [hji6] at H
     by_cases c7 : 0 ≤ (ji6)
     ·rw [if_pos c7] at H
      have c7b0 : decide (0 ≤ (ji6)) = true := decide_eq_true c7
      clear c7
      by_cases c8 : (ji6) < 256
      ·rw [if_pos c8] at H
       have c8b0 : decide ((ji6) < 256) = true := decide_eq_true c8
       clear c8
       obtain rfl := Option.some.inj H
       have p9 : 0 ≤ ((ji6) : Int) := of_decide_eq_true as_
       have q9 : (ji6) < (256 : Int) := of_decide_eq_true as_
       have hx9 := bt_at (⟨#[0, 1, 2, 2, 3, 3, 3, 3, 4, 4, 4, 4, 4, 4, 4, 4, 5, 5, 5, 5, 5, 5, 5, 5, 5, 5, 5, 5, 5, 5, 5, 5, 6, 6, 6, 6, 6, 6, 6, 6, 6, 6, 6, 6, 6, 6, 6, 6, 6, 6, 6, 6, 6, 6, 6, 6, 6, 6, 6, 6, 6, 6, 6, 6, 7, 7, 7, 7, 7, 7, 7, 7, 7, 7, 7, 7, 7, 7, 7, 7, 7, 7, 7, 7, 7, 7, 7, 7, 7, 7, 7, 7, 7, 7, 7, 7, 7, 7, 7, 7, 7, 7, 7, 7, 7, 7, 7, 7, 7, 7, 7, 7, 7, 7, 7, 7, 7, 7, 7, 7, 7, 7, 7, 7, 7, 7, 7, 7, 8, 8, 8, 8, 8, 8, 8, 8, 8, 8, 8, 8, 8, 8, 8, 8, 8, 8, 8, 8, 8, 8, 8, 8, 8, 8, 8, 8, 8, 8, 8, 8, 8, 8, 8, 8, 8, 8, 8, 8, 8, 8, 8, 8, 8, 8, 8, 8, 8, 8, 8, 8, 8, 8, 8, 8, 8, 8, 8, 8, 8, 8, 8, 8, 8, 8, 8, 8, 8, 8, 8, 8, 8, 8, 8, 8, 8, 8, 8, 8, 8, 8, 8, 8, 8, 8, 8, 8, 8, 8, 8, 8, 8, 8, 8, 8, 8, 8, 8, 8, 8, 8, 8, 8, 8, 8, 8, 8, 8, 8, 8, 8, 8, 8, 8, 8, 8, 8, 8, 8, 8, 8, 8, 8, 8, 8, 8, 8]⟩ : ByteArray) (ji6)
       replace p9 := eq_true p9
       replace q9 := eq_true q9
       go_wp2
       go_ret
       exact ⟨by first | rfl | (simp; done) | (simp only [← hji6] <;> (first | rfl | simp)) | (simp [*]; done), dr⟩
      ·rw [if_neg c8] at H
       exact absurd H (by simp)
     ·rw [if_neg c7] at H
      exact absurd H (by simp)
    ·obtain ⟨ji10, hji10⟩ : ∃ j_ : Int, ((x0_1 / 65536) % 256) = j_ := ⟨_, rfl⟩
     first | rw [hji10] at H | simp only [hji10] at H
     by_cases c11 : 0 ≤ (ji10)
     ·rw [if_pos c11] at H
      have c11b0 : decide (0 ≤ (ji10)) = true := decide_eq_true c11
      clear c11
      by_cases c12 : (ji10) < 256
      ·rw [if_pos c12] at H
       have c12b0 : decide ((ji10) < 256) = true := decide_eq_true c12
       clear c12
       obtain rfl := Option.some.inj H
       have p13 : 0 ≤ ((ji10) : Int) := of_decide_eq_true as_
       have q13 : (ji10) < (256 : Int) := of_decide_eq_true as_
       have hx13 := bt_at (⟨#[0, 1, 2, 2, 3, 3, 3, 3, 4, 4, 4, 4, 4, 4, 4, 4, 5, 5, 5, 5, 5, 5, 5, 5, 5, 5, 5, 5, 5, 5, 5, 5, 6, 6, 6, 6, 6, 6, 6, 6, 6, 6, 6, 6, 6, 6, 6, 6, 6, 6, 6, 6, 6, 6, 6, 6, 6, 6, 6, 6, 6, 6, 6, 6, 7, 7, 7, 7, 7, 7, 7, 7, 7, 7, 7, 7, 7, 7, 7, 7, 7, 7, 7, 7, 7, 7, 7, 7, 7, 7, 7, 7, 7, 7, 7, 7, 7, 7, 7, 7, 7, 7, 7, 7, 7, 7, 7, 7, 7, 7, 7, 7, 7, 7, 7, 7, 7, 7, 7, 7, 7, 7, 7, 7, 7, 7, 7, 7, 8, 8, 8, 8, 8, 8, 8, 8, 8, 8, 8, 8, 8, 8, 8, 8, 8, 8, 8, 8, 8, 8, 8, 8, 8, 8, 8, 8, 8, 8, 8, 8, 8, 8, 8, 8, 8, 8, 8, 8, 8, 8, 8, 8, 8, 8, 8, 8, 8, 8, 8, 8, 8, 8, 8, 8, 8, 8, 8, 8, 8, 8, 8, 8, 8, 8, 8, 8, 8, 8, 8, 8, 8, 8, 8, 8, 8, 8, 8, 8, 8, 8, 8, 8, 8, 8, 8, 8, 8, 8, 8, 8, 8, 8, 8, 8, 8, 8, 8, 8, 8, 8, 8, 8, 8, 8, 8, 8, 8, 8, 8, 8, 8, 8, 8, 8, 8, 8, 8, 8, 8, 8, 8, 8, 8, 8, 8, 8]⟩ : ByteArray) (ji10)
       replace p13 := eq_true p13
       replace q13 := eq_true q13
       go_wp2
       go_ret
       exact ⟨by first | rfl | (simp; done) | (simp only [← hji10] <;> (first | rfl | simp)) | (simp [*]; done), dr⟩
      ·rw [if_neg c12] at H
       exact absurd H (by simp)
     ·rw [if_neg c11] at H
      exact absurd H (by simp)
   ·replace H := ige H
    rcases H with ⟨c14b0, H⟩ | ⟨c14b0, H⟩
    ·obtain ⟨ji15, hji15⟩ : ∃ j_ : Int, ((x0_1 / 256) % 256) = j_ := ⟨_, rfl⟩
     first | rw [hji15] at H | simp only [hji15] at H
     by_cases c16 : 0 ≤ (ji15)
     ·rw [if_pos c16] at H
      have c16b0 : decide (0 ≤ (ji15)) = true := decide_eq_true c16
      clear c16
      by_cases c17 : (ji15) < 256
      ·rw [if_pos c17] at H
       have c17b0 : decide ((ji15) < 256) = true := decide_eq_true c17
       clear c17
       obtain rfl := Option.some.inj H
       have p18 : 0 ≤ ((ji15) : Int) := of_decide_eq_true as_
       have q18 : (ji15) < (256 : Int) := of_decide_eq_true as_
       have hx18 := bt_at (⟨#[0, 1, 2, 2, 3, 3, 3, 3, 4, 4, 4, 4, 4, 4, 4, 4, 5, 5, 5, 5, 5, 5, 5, 5, 5, 5, 5, 5, 5, 5, 5, 5, 6, 6, 6, 6, 6, 6, 6, 6, 6, 6, 6, 6, 6, 6, 6, 6, 6, 6, 6, 6, 6, 6, 6, 6, 6, 6, 6, 6, 6, 6, 6, 6, 7, 7, 7, 7, 7, 7, 7, 7, 7, 7, 7, 7, 7, 7, 7, 7, 7, 7, 7, 7, 7, 7, 7, 7, 7, 7, 7, 7, 7, 7, 7, 7, 7, 7, 7, 7, 7, 7, 7, 7, 7, 7, 7, 7, 7, 7, 7, 7, 7, 7, 7, 7, 7, 7, 7, 7, 7, 7, 7, 7, 7, 7, 7, 7, 8, 8, 8, 8, 8, 8, 8, 8, 8, 8, 8, 8, 8, 8, 8, 8, 8, 8, 8, 8, 8, 8, 8, 8, 8, 8, 8, 8, 8, 8, 8, 8, 8, 8, 8, 8, 8, 8, 8, 8, 8, 8, 8, 8, 8, 8, 8, 8, 8, 8, 8, 8, 8, 8, 8, 8, 8, 8, 8, 8, 8, 8, 8, 8, 8, 8, 8, 8, 8, 8, 8, 8, 8, 8, 8, 8, 8, 8, 8, 8, 8, 8, 8, 8, 8, 8, 8, 8, 8, 8, 8, 8, 8, 8, 8, 8, 8, 8, 8, 8, 8, 8, 8, 8, 8, 8, 8, 8, 8, 8, 8, 8, 8, 8, 8, 8, 8, 8, 8, 8, 8, 8, 8, 8, 8, 8, 8, 8]⟩ : ByteArray) (ji15)
       replace p18 := eq_true p18
       replace q18 := eq_true q18
       go_wp2
       go_ret
       exact ⟨by first | rfl | (simp; done) | (simp only [← hji15] <;> (first | rfl | simp)) | (simp [*]; done), dr⟩
      ·rw [if_neg c17] at H
       exact absurd H (by simp)
     ·rw [if_neg c16] at H
      exact absurd H (by simp)
    ·obtain ⟨ji19, hji19⟩ : ∃ j_ : Int, ((x0_1) % 256) = j_ := ⟨_, rfl⟩
     first | rw [hji19] at H | simp only [hji19] at H
     by_cases c20 : 0 ≤ (ji19)
     ·rw [if_pos c20] at H
      have c20b0 : decide (0 ≤ (ji19)) = true := decide_eq_true c20
      clear c20
      by_cases c21 : (ji19) < 256
      ·rw [if_pos c21] at H
       have c21b0 : decide ((ji19) < 256) = true := decide_eq_true c21
       clear c21
       obtain rfl := Option.some.inj H
       have p22 : 0 ≤ ((ji19) : Int) := of_decide_eq_true as_
       have q22 : (ji19) < (256 : Int) := of_decide_eq_true as_
       have hx22 := bt_at (⟨#[0, 1, 2, 2, 3, 3, 3, 3, 4, 4, 4, 4, 4, 4, 4, 4, 5, 5, 5, 5, 5, 5, 5, 5, 5, 5, 5, 5, 5, 5, 5, 5, 6, 6, 6, 6, 6, 6, 6, 6, 6, 6, 6, 6, 6, 6, 6, 6, 6, 6, 6, 6, 6, 6, 6, 6, 6, 6, 6, 6, 6, 6, 6, 6, 7, 7, 7, 7, 7, 7, 7, 7, 7, 7, 7, 7, 7, 7, 7, 7, 7, 7, 7, 7, 7, 7, 7, 7, 7, 7, 7, 7, 7, 7, 7, 7, 7, 7, 7, 7, 7, 7, 7, 7, 7, 7, 7, 7, 7, 7, 7, 7, 7, 7, 7, 7, 7, 7, 7, 7, 7, 7, 7, 7, 7, 7, 7, 7, 8, 8, 8, 8, 8, 8, 8, 8, 8, 8, 8, 8, 8, 8, 8, 8, 8, 8, 8, 8, 8, 8, 8, 8, 8, 8, 8, 8, 8, 8, 8, 8, 8, 8, 8, 8, 8, 8, 8, 8, 8, 8, 8, 8, 8, 8, 8, 8, 8, 8, 8, 8, 8, 8, 8, 8, 8, 8, 8, 8, 8, 8, 8, 8, 8, 8, 8, 8, 8, 8, 8, 8, 8, 8, 8, 8, 8, 8, 8, 8, 8, 8, 8, 8, 8, 8, 8, 8, 8, 8, 8, 8, 8, 8, 8, 8, 8, 8, 8, 8, 8, 8, 8, 8, 8, 8, 8, 8, 8, 8, 8, 8, 8, 8, 8, 8, 8, 8, 8, 8, 8, 8, 8, 8, 8, 8, 8, 8]⟩ : ByteArray) (ji19)
       replace p22 := eq_true p22
       replace q22 := eq_true q22
       go_wp2
       go_ret
       exact ⟨by first | rfl | (simp; done) | (simp only [← hji19] <;> (first | rfl | simp)) | (simp [*]; done), dr⟩
      ·rw [if_neg c21] at H
       exact absurd H (by simp)
     ·rw [if_neg c20] at H
      exact absurd H (by simp)

/-! ### bits_Len: function 105 -/
def bits_Len.f (k : Nat) (a0 : Int) : Option (Int) := (bits_Len64.f k a0).bind fun t281 => (some t281)
theorem bits_Len.mono : ∀ a0 k, LeO (bits_Len.f k a0) (bits_Len.f (k + 1) a0) := by
 intro a0 k
 unfold bits_Len.f
 repeat' first
  | (with_reducible first | exact bits_Len64.mono .. | exact LeO.refl _ | exact LeO.none _ | refine LeO.ite ?_ ?_ | refine LeO.bind ?_ (fun _ => ?_))
  | exact LeO.none _ | refine LeO.ite ?_ ?_ | refine LeO.bind ?_ (fun _ => ?_)
set_option maxHeartbeats 8000000 in
set_option maxRecDepth 100000 in
theorem bits_Len.calls (k : Nat) (a0 : Int) (r : Int) (w : World) (h : bits_Len.f k a0 = some r) :
  Calls Tryd.prog 105 #[.int .u64 a0] w fun e w' => e = .returned (.int .i64 r) ∧ Drawn0 w w' := by
 unfold bits_Len.f at h
 have H := h
 clear h
 replace H := bn H
 obtain ⟨t281, A2, H⟩ := H
 try dsimp only at H
 obtain rfl := Option.some.inj H
 go_enter Tryd.func105, Tryd.ntmps105
 go_wp2_with (first | ((with_reducible refine gf 117 ?_); refine gc Tryd.func117 (some 7) (bits_Len64.calls _ _ _ _ A2.out) ?_; rintro e w' ⟨rfl, ⟨nd, rfl⟩⟩; refine ⟨_, rfl, ?_⟩))
 go_ret
 exact ⟨ev, dr⟩

/-! ### impl_ClassOf: function 81 -/
def impl_ClassOf.f (k : Nat) (a0 : Int) : Option (Int) := (impl_within.f a0 1 16).bind fun t282 => (if t282 = true then ((bits_Len.f k (IntKind.u64.wrap (wrap64 (a0 - 1)))).bind fun t283 => (some t283)) else (some (-1)))
theorem impl_ClassOf.mono : ∀ a0 k, LeO (impl_ClassOf.f k a0) (impl_ClassOf.f (k + 1) a0) := by
 intro a0 k
 unfold impl_ClassOf.f
 repeat' first
  | (with_reducible first | exact bits_Len.mono .. | exact LeO.refl _ | exact LeO.none _ | refine LeO.ite ?_ ?_ | refine LeO.bind ?_ (fun _ => ?_))
  | exact LeO.none _ | refine LeO.ite ?_ ?_ | refine LeO.bind ?_ (fun _ => ?_)
set_option maxHeartbeats 8000000 in
set_option maxRecDepth 100000 in
theorem impl_ClassOf.calls (k : Nat) (a0 : Int) (r : Int) (w : World) (h : impl_ClassOf.f k a0 = some r) :
  Calls Tryd.prog 81 #[.int .i64 a0] w fun e w' => e = .returned (.int .i64 r) ∧ Drawn0 w w' := by
 unfold impl_ClassOf.f at h
 have H := h
 clear h
 replace H := bn H
 obtain ⟨t282, A2, H⟩ := H
 try dsimp only at H
 have HU3 := Aside0.mk H
 clear H
 go_enter Tryd.func81, Tryd.ntmps81
 go_upto_if 5 with (first | ((with_reducible refine gf 72 ?_); refine gc Tryd.func72 (some 4) (impl_within.calls _ _ _ _ _ A2.out) ?_; rintro e w' ⟨rfl, ⟨nd, rfl⟩⟩; refine ⟨_, rfl, ?_⟩))
 (try refine ap ?_)
 have H := HU3.out
 clear HU3
 replace H := ib H
 rcases H with ⟨rfl, H⟩ | ⟨rfl, H⟩
 ·(try simp only [Bool.not_true, Bool.not_false])
  replace H := bn H
  obtain ⟨t283, A5, H⟩ := H
  try dsimp only at H
  obtain rfl := Option.some.inj H
  go_wp2_with (first | ((with_reducible refine gf 105 ?_); refine gc Tryd.func105 (some 9) (bits_Len.calls _ _ _ _ A5.out) ?_; rintro e w' ⟨rfl, ⟨nd, rfl⟩⟩; refine ⟨_, rfl, ?_⟩))
  go_ret
  exact ⟨ev, dr⟩
 ·(try simp only [Bool.not_true, Bool.not_false])
  obtain rfl := Option.some.inj H
  go_wp2
  go_ret
  exact ⟨ev, dr⟩

/-! ### bits_OnesCount32: function 125 -/
def bits_OnesCount32.f (a0 : Int) : Option (Int) := if 0 ≤ (a0 / 16777216) then (if (a0 / 16777216) < 256 then (if 0 ≤ (Go.bits .and .u32 (a0 / 65536) 255) then (if (Go.bits .and .u32 (a0 / 65536) 255) < 256 then (if 0 ≤ (Go.bits .and .u32 (a0 / 256) 255) then (if (Go.bits .and .u32 (a0 / 256) 255) < 256 then (if 0 ≤ (Go.bits .and .u32 a0 255) then (if (Go.bits .and .u32 a0 255) < 256 then (some (((((((bt (⟨#[0, 1, 1, 2, 1, 2, 2, 3, 1, 2, 2, 3, 2, 3, 3, 4, 1, 2, 2, 3, 2, 3, 3, 4, 2, 3, 3, 4, 3, 4, 4, 5, 1, 2, 2, 3, 2, 3, 3, 4, 2, 3, 3, 4, 3, 4, 4, 5, 2, 3, 3, 4, 3, 4, 4, 5, 3, 4, 4, 5, 4, 5, 5, 6, 1, 2, 2, 3, 2, 3, 3, 4, 2, 3, 3, 4, 3, 4, 4, 5, 2, 3, 3, 4, 3, 4, 4, 5, 3, 4, 4, 5, 4, 5, 5, 6, 2, 3, 3, 4, 3, 4, 4, 5, 3, 4, 4, 5, 4, 5, 5, 6, 3, 4, 4, 5, 4, 5, 5, 6, 4, 5, 5, 6, 5, 6, 6, 7, 1, 2, 2, 3, 2, 3, 3, 4, 2, 3, 3, 4, 3, 4, 4, 5, 2, 3, 3, 4, 3, 4, 4, 5, 3, 4, 4, 5, 4, 5, 5, 6, 2, 3, 3, 4, 3, 4, 4, 5, 3, 4, 4, 5, 4, 5, 5, 6, 3, 4, 4, 5, 4, 5, 5, 6, 4, 5, 5, 6, 5, 6, 6, 7, 2, 3, 3, 4, 3, 4, 4, 5, 3, 4, 4, 5, 4, 5, 5, 6, 3, 4, 4, 5, 4, 5, 5, 6, 4, 5, 5, 6, 5, 6, 6, 7, 3, 4, 4, 5, 4, 5, 5, 6, 4, 5, 5, 6, 5, 6, 6, 7, 4, 5, 5, 6, 5, 6, 6, 7, 5, 6, 6, 7, 6, 7, 7, 8]⟩ : ByteArray) (a0 / 16777216)) + (bt (⟨#[0, 1, 1, 2, 1, 2, 2, 3, 1, 2, 2, 3, 2, 3, 3, 4, 1, 2, 2, 3, 2, 3, 3, 4, 2, 3, 3, 4, 3, 4, 4, 5, 1, 2, 2, 3, 2, 3, 3, 4, 2, 3, 3, 4, 3, 4, 4, 5, 2, 3, 3, 4, 3, 4, 4, 5, 3, 4, 4, 5, 4, 5, 5, 6, 1, 2, 2, 3, 2, 3, 3, 4, 2, 3, 3, 4, 3, 4, 4, 5, 2, 3, 3, 4, 3, 4, 4, 5, 3, 4, 4, 5, 4, 5, 5, 6, 2, 3, 3, 4, 3, 4, 4, 5, 3, 4, 4, 5, 4, 5, 5, 6, 3, 4, 4, 5, 4, 5, 5, 6, 4, 5, 5, 6, 5, 6, 6, 7, 1, 2, 2, 3, 2, 3, 3, 4, 2, 3, 3, 4, 3, 4, 4, 5, 2, 3, 3, 4, 3, 4, 4, 5, 3, 4, 4, 5, 4, 5, 5, 6, 2, 3, 3, 4, 3, 4, 4, 5, 3, 4, 4, 5, 4, 5, 5, 6, 3, 4, 4, 5, 4, 5, 5, 6, 4, 5, 5, 6, 5, 6, 6, 7, 2, 3, 3, 4, 3, 4, 4, 5, 3, 4, 4, 5, 4, 5, 5, 6, 3, 4, 4, 5, 4, 5, 5, 6, 4, 5, 5, 6, 5, 6, 6, 7, 3, 4, 4, 5, 4, 5, 5, 6, 4, 5, 5, 6, 5, 6, 6, 7, 4, 5, 5, 6, 5, 6, 6, 7, 5, 6, 6, 7, 6, 7, 7, 8]⟩ : ByteArray) (Go.bits .and .u32 (a0 / 65536) 255))) % 256) + (bt (⟨#[0, 1, 1, 2, 1, 2, 2, 3, 1, 2, 2, 3, 2, 3, 3, 4, 1, 2, 2, 3, 2, 3, 3, 4, 2, 3, 3, 4, 3, 4, 4, 5, 1, 2, 2, 3, 2, 3, 3, 4, 2, 3, 3, 4, 3, 4, 4, 5, 2, 3, 3, 4, 3, 4, 4, 5, 3, 4, 4, 5, 4, 5, 5, 6, 1, 2, 2, 3, 2, 3, 3, 4, 2, 3, 3, 4, 3, 4, 4, 5, 2, 3, 3, 4, 3, 4, 4, 5, 3, 4, 4, 5, 4, 5, 5, 6, 2, 3, 3, 4, 3, 4, 4, 5, 3, 4, 4, 5, 4, 5, 5, 6, 3, 4, 4, 5, 4, 5, 5, 6, 4, 5, 5, 6, 5, 6, 6, 7, 1, 2, 2, 3, 2, 3, 3, 4, 2, 3, 3, 4, 3, 4, 4, 5, 2, 3, 3, 4, 3, 4, 4, 5, 3, 4, 4, 5, 4, 5, 5, 6, 2, 3, 3, 4, 3, 4, 4, 5, 3, 4, 4, 5, 4, 5, 5, 6, 3, 4, 4, 5, 4, 5, 5, 6, 4, 5, 5, 6, 5, 6, 6, 7, 2, 3, 3, 4, 3, 4, 4, 5, 3, 4, 4, 5, 4, 5, 5, 6, 3, 4, 4, 5, 4, 5, 5, 6, 4, 5, 5, 6, 5, 6, 6, 7, 3, 4, 4, 5, 4, 5, 5, 6, 4, 5, 5, 6, 5, 6, 6, 7, 4, 5, 5, 6, 5, 6, 6, 7, 5, 6, 6, 7, 6, 7, 7, 8]⟩ : ByteArray) (Go.bits .and .u32 (a0 / 256) 255))) % 256) + (bt (⟨#[0, 1, 1, 2, 1, 2, 2, 3, 1, 2, 2, 3, 2, 3, 3, 4, 1, 2, 2, 3, 2, 3, 3, 4, 2, 3, 3, 4, 3, 4, 4, 5, 1, 2, 2, 3, 2, 3, 3, 4, 2, 3, 3, 4, 3, 4, 4, 5, 2, 3, 3, 4, 3, 4, 4, 5, 3, 4, 4, 5, 4, 5, 5, 6, 1, 2, 2, 3, 2, 3, 3, 4, 2, 3, 3, 4, 3, 4, 4, 5, 2, 3, 3, 4, 3, 4, 4, 5, 3, 4, 4, 5, 4, 5, 5, 6, 2, 3, 3, 4, 3, 4, 4, 5, 3, 4, 4, 5, 4, 5, 5, 6, 3, 4, 4, 5, 4, 5, 5, 6, 4, 5, 5, 6, 5, 6, 6, 7, 1, 2, 2, 3, 2, 3, 3, 4, 2, 3, 3, 4, 3, 4, 4, 5, 2, 3, 3, 4, 3, 4, 4, 5, 3, 4, 4, 5, 4, 5, 5, 6, 2, 3, 3, 4, 3, 4, 4, 5, 3, 4, 4, 5, 4, 5, 5, 6, 3, 4, 4, 5, 4, 5, 5, 6, 4, 5, 5, 6, 5, 6, 6, 7, 2, 3, 3, 4, 3, 4, 4, 5, 3, 4, 4, 5, 4, 5, 5, 6, 3, 4, 4, 5, 4, 5, 5, 6, 4, 5, 5, 6, 5, 6, 6, 7, 3, 4, 4, 5, 4, 5, 5, 6, 4, 5, 5, 6, 5, 6, 6, 7, 4, 5, 5, 6, 5, 6, 6, 7, 5, 6, 6, 7, 6, 7, 7, 8]⟩ : ByteArray) (Go.bits .and .u32 a0 255))) % 256)) else (none)) else (none)) else (none)) else (none)) else (none)) else (none)) else (none)) else (none)
set_option maxHeartbeats 8000000 in
set_option maxRecDepth 100000 in
theorem bits_OnesCount32.calls (a0 : Int) (r : Int) (w : World) (h : bits_OnesCount32.f a0 = some r) :
  Calls Tryd.prog 125 #[.int .u32 a0] w fun e w' => e = .returned (.int .i64 r) ∧ Drawn0 w w' := by
 unfold bits_OnesCount32.f at h
 have H := h
 clear h
 obtain ⟨ji2, hji2⟩ : ∃ j_ : Int, (a0 / 16777216) = j_ := ⟨_, rfl⟩
 first | rw [hji2] at H | simp only [hji2] at H
 by_cases c3 : 0 ≤ (ji2)
 ·rw [if_pos c3] at H
  have c3b0 : decide (0 ≤ (ji2)) = true := decide_eq_true c3
  clear c3
  by_cases c4 : (ji2) < 256
  ·rw [if_pos c4] at H
   have c4b0 : decide ((ji2) < 256) = true := decide_eq_true c4
   clear c4
   obtain ⟨ji6, hji6⟩ : ∃ j_ : Int, (Go.bits .and .u32 (a0 / 65536) 255) = j_ := ⟨_, rfl⟩
   first | rw [hji6] at H | simp only [hji6] at H
   by_cases c7 : 0 ≤ (ji6)
   ·rw [if_pos c7] at H
    have c7b0 : decide (0 ≤ (ji6)) = true := decide_eq_true c7
    clear c7
    by_cases c8 : (ji6) < 256
    ·rw [if_pos c8] at H
     have c8b0 : decide ((ji6) < 256) = true := decide_eq_true c8
     clear c8
     obtain ⟨ji10, hji10⟩ : ∃ j_ : Int, (Go.bits .and .u32 (a0 / 256) 255) = j_ := ⟨_, rfl⟩
     first | rw [hji10] at H | simp only [hji10] at H
     by_cases c11 : 0 ≤ (ji10)
     ·rw [if_pos c11] at H
      have c11b0 : decide (0 ≤ (ji10)) = true := decide_eq_true c11
      clear c11
      by_cases c12 : (ji10) < 256
      ·rw [if_pos c12] at H
       have c12b0 : decide ((ji10) < 256) = true := decide_eq_true c12
       clear c12
       by_cases c14 : 0 ≤ (Go.bits .and .u32 a0 255)
       ·rw [if_pos c14] at H
        have c14b0 : decide (0 ≤ (Go.bits .and .u32 a0 255)) = true := decide_eq_true c14
        clear c14
        by_cases c15 : (Go.bits .and .u32 a0 255) < 256
        ·rw [if_pos c15] at H
         have c15b0 : decide ((Go.bits .and .u32 a0 255) < 256) = true := decide_eq_true c15
         clear c15
         obtain rfl := Option.some.inj H
         have p5 : 0 ≤ ((ji2) : Int) := of_decide_eq_true as_
         have q5 : (ji2) < (256 : Int) := of_decide_eq_true as_
         have hx5 := bt_at (⟨#[0, 1, 1, 2, 1, 2, 2, 3, 1, 2, 2, 3, 2, 3, 3, 4, 1, 2, 2, 3, 2, 3, 3, 4, 2, 3, 3, 4, 3, 4, 4, 5, 1, 2, 2, 3, 2, 3, 3, 4, 2, 3, 3, 4, 3, 4, 4, 5, 2, 3, 3, 4, 3, 4, 4, 5, 3, 4, 4, 5, 4, 5, 5, 6, 1, 2, 2, 3, 2, 3, 3, 4, 2, 3, 3, 4, 3, 4, 4, 5, 2, 3, 3, 4, 3, 4, 4, 5, 3, 4, 4, 5, 4, 5, 5, 6, 2, 3, 3, 4, 3, 4, 4, 5, 3, 4, 4, 5, 4, 5, 5, 6, 3, 4, 4, 5, 4, 5, 5, 6, 4, 5, 5, 6, 5, 6, 6, 7, 1, 2, 2, 3, 2, 3, 3, 4, 2, 3, 3, 4, 3, 4, 4, 5, 2, 3, 3, 4, 3, 4, 4, 5, 3, 4, 4, 5, 4, 5, 5, 6, 2, 3, 3, 4, 3, 4, 4, 5, 3, 4, 4, 5, 4, 5, 5, 6, 3, 4, 4, 5, 4, 5, 5, 6, 4, 5, 5, 6, 5, 6, 6, 7, 2, 3, 3, 4, 3, 4, 4, 5, 3, 4, 4, 5, 4, 5, 5, 6, 3, 4, 4, 5, 4, 5, 5, 6, 4, 5, 5, 6, 5, 6, 6, 7, 3, 4, 4, 5, 4, 5, 5, 6, 4, 5, 5, 6, 5, 6, 6, 7, 4, 5, 5, 6, 5, 6, 6, 7, 5, 6, 6, 7, 6, 7, 7, 8]⟩ : ByteArray) (ji2)
         replace p5 := eq_true p5
         replace q5 := eq_true q5
         have p9 : 0 ≤ ((ji6) : Int) := of_decide_eq_true as_
         have q9 : (ji6) < (256 : Int) := of_decide_eq_true as_
         have hx9 := bt_at (⟨#[0, 1, 1, 2, 1, 2, 2, 3, 1, 2, 2, 3, 2, 3, 3, 4, 1, 2, 2, 3, 2, 3, 3, 4, 2, 3, 3, 4, 3, 4, 4, 5, 1, 2, 2, 3, 2, 3, 3, 4, 2, 3, 3, 4, 3, 4, 4, 5, 2, 3, 3, 4, 3, 4, 4, 5, 3, 4, 4, 5, 4, 5, 5, 6, 1, 2, 2, 3, 2, 3, 3, 4, 2, 3, 3, 4, 3, 4, 4, 5, 2, 3, 3, 4, 3, 4, 4, 5, 3, 4, 4, 5, 4, 5, 5, 6, 2, 3, 3, 4, 3, 4, 4, 5, 3, 4, 4, 5, 4, 5, 5, 6, 3, 4, 4, 5, 4, 5, 5, 6, 4, 5, 5, 6, 5, 6, 6, 7, 1, 2, 2, 3, 2, 3, 3, 4, 2, 3, 3, 4, 3, 4, 4, 5, 2, 3, 3, 4, 3, 4, 4, 5, 3, 4, 4, 5, 4, 5, 5, 6, 2, 3, 3, 4, 3, 4, 4, 5, 3, 4, 4, 5, 4, 5, 5, 6, 3, 4, 4, 5, 4, 5, 5, 6, 4, 5, 5, 6, 5, 6, 6, 7, 2, 3, 3, 4, 3, 4, 4, 5, 3, 4, 4, 5, 4, 5, 5, 6, 3, 4, 4, 5, 4, 5, 5, 6, 4, 5, 5, 6, 5, 6, 6, 7, 3, 4, 4, 5, 4, 5, 5, 6, 4, 5, 5, 6, 5, 6, 6, 7, 4, 5, 5, 6, 5, 6, 6, 7, 5, 6, 6, 7, 6, 7, 7, 8]⟩ : ByteArray) (ji6)
         replace p9 := eq_true p9
         replace q9 := eq_true q9
         have p13 : 0 ≤ ((ji10) : Int) := of_decide_eq_true as_
         have q13 : (ji10) < (256 : Int) := of_decide_eq_true as_
         have hx13 := bt_at (⟨#[0, 1, 1, 2, 1, 2, 2, 3, 1, 2, 2, 3, 2, 3, 3, 4, 1, 2, 2, 3, 2, 3, 3, 4, 2, 3, 3, 4, 3, 4, 4, 5, 1, 2, 2, 3, 2, 3, 3, 4, 2, 3, 3, 4, 3, 4, 4, 5, 2, 3, 3, 4, 3, 4, 4, 5, 3, 4, 4, 5, 4, 5, 5, 6, 1, 2, 2, 3, 2, 3, 3, 4, 2, 3, 3, 4, 3, 4, 4, 5, 2, 3, 3, 4, 3, 4, 4, 5, 3, 4, 4, 5, 4, 5, 5, 6, 2, 3, 3, 4, 3, 4, 4, 5, 3, 4, 4, 5, 4, 5, 5, 6, 3, 4, 4, 5, 4, 5, 5, 6, 4, 5, 5, 6, 5, 6, 6, 7, 1, 2, 2, 3, 2, 3, 3, 4, 2, 3, 3, 4, 3, 4, 4, 5, 2, 3, 3, 4, 3, 4, 4, 5, 3, 4, 4, 5, 4, 5, 5, 6, 2, 3, 3, 4, 3, 4, 4, 5, 3, 4, 4, 5, 4, 5, 5, 6, 3, 4, 4, 5, 4, 5, 5, 6, 4, 5, 5, 6, 5, 6, 6, 7, 2, 3, 3, 4, 3, 4, 4, 5, 3, 4, 4, 5, 4, 5, 5, 6, 3, 4, 4, 5, 4, 5, 5, 6, 4, 5, 5, 6, 5, 6, 6, 7, 3, 4, 4, 5, 4, 5, 5, 6, 4, 5, 5, 6, 5, 6, 6, 7, 4, 5, 5, 6, 5, 6, 6, 7, 5, 6, 6, 7, 6, 7, 7, 8]⟩ : ByteArray) (ji10)
         replace p13 := eq_true p13
         replace q13 := eq_true q13
         have p16 : 0 ≤ ((Go.bits .and .u32 a0 255) : Int) := of_decide_eq_true as_
         have q16 : (Go.bits .and .u32 a0 255) < (256 : Int) := of_decide_eq_true as_
         have hx16 := bt_at (⟨#[0, 1, 1, 2, 1, 2, 2, 3, 1, 2, 2, 3, 2, 3, 3, 4, 1, 2, 2, 3, 2, 3, 3, 4, 2, 3, 3, 4, 3, 4, 4, 5, 1, 2, 2, 3, 2, 3, 3, 4, 2, 3, 3, 4, 3, 4, 4, 5, 2, 3, 3, 4, 3, 4, 4, 5, 3, 4, 4, 5, 4, 5, 5, 6, 1, 2, 2, 3, 2, 3, 3, 4, 2, 3, 3, 4, 3, 4, 4, 5, 2, 3, 3, 4, 3, 4, 4, 5, 3, 4, 4, 5, 4, 5, 5, 6, 2, 3, 3, 4, 3, 4, 4, 5, 3, 4, 4, 5, 4, 5, 5, 6, 3, 4, 4, 5, 4, 5, 5, 6, 4, 5, 5, 6, 5, 6, 6, 7, 1, 2, 2, 3, 2, 3, 3, 4, 2, 3, 3, 4, 3, 4, 4, 5, 2, 3, 3, 4, 3, 4, 4, 5, 3, 4, 4, 5, 4, 5, 5, 6, 2, 3, 3, 4, 3, 4, 4, 5, 3, 4, 4, 5, 4, 5, 5, 6, 3, 4, 4, 5, 4, 5, 5, 6, 4, 5, 5, 6, 5, 6, 6, 7, 2, 3, 3, 4, 3, 4, 4, 5, 3, 4, 4, 5, 4, 5, 5, 6, 3, 4, 4, 5, 4, 5, 5, 6, 4, 5, 5, 6, 5, 6, 6, 7, 3, 4, 4, 5, 4, 5, 5, 6, 4, 5, 5, 6, 5, 6, 6, 7, 4, 5, 5, 6, 5, 6, 6, 7, 5, 6, 6, 7, 6, 7, 7, 8]⟩ : ByteArray) (Go.bits .and .u32 a0 255)
         replace p16 := eq_true p16
         replace q16 := eq_true q16
         go_enter Tryd.func125, Tryd.ntmps125
         go_wp2
         repeat (go_quiet (fail); try go_wp2)
         go_ret
         exact ⟨by first | rfl | (simp; done) | (simp only [← hji2, ← hji6, ← hji10] <;> (first | rfl | simp)) | (simp [*]; done), dr⟩
        ·rw [if_neg c15] at H
         exact absurd H (by simp)
       ·rw [if_neg c14] at H
        exact absurd H (by simp)
      ·rw [if_neg c12] at H
       exact absurd H (by simp)
     ·rw [if_neg c11] at H
      exact absurd H (by simp)
    ·rw [if_neg c8] at H
     exact absurd H (by simp)
   ·rw [if_neg c7] at H
    exact absurd H (by simp)
  ·rw [if_neg c4] at H
   exact absurd H (by simp)
 ·rw [if_neg c3] at H
  exact absurd H (by simp)

/-! ### impl_Ones: function 124 -/
def impl_Ones.f (a0 : Int) : Option (Int) := (bits_OnesCount32.f a0).bind fun t284 => (some t284)
set_option maxHeartbeats 8000000 in
set_option maxRecDepth 100000 in
theorem impl_Ones.calls (a0 : Int) (r : Int) (w : World) (h : impl_Ones.f a0 = some r) :
  Calls Tryd.prog 124 #[.int .u32 a0] w fun e w' => e = .returned (.int .i64 r) ∧ Drawn0 w w' := by
 unfold impl_Ones.f at h
 have H := h
 clear h
 replace H := bn H
 obtain ⟨t284, A2, H⟩ := H
 try dsimp only at H
 obtain rfl := Option.some.inj H
 go_enter Tryd.func124, Tryd.ntmps124
 go_wp2_with (first | ((with_reducible refine gf 125 ?_); refine gc Tryd.func125 (some 4) (bits_OnesCount32.calls _ _ _ A2.out) ?_; rintro e w' ⟨rfl, ⟨nd, rfl⟩⟩; refine ⟨_, rfl, ?_⟩))
 go_ret
 exact ⟨ev, dr⟩

/-! ### impl_roomOf: function 115 -/
def impl_roomOf.j0 : Nat → Int → Bool → Int → Int → Int → Int → Option (Int)
 | 0, _, _, _, _, _, _ => none
 | k + 1, x1, x11, x286000, x286001, x286002, x286003 => if x11 = true then ((impl_PerPage.f x1).bind fun t287 => ((impl_Ones.f x286002).bind fun t288 => (some (wrap64 (t287 - t288))))) else (some 0)
def impl_roomOf.f (k : Nat) (a0_0 : Int) (a0_1 : Int) (a0_2 : Int) (a0_3 : Int) (a1 : Int) : Option (Int) := if a0_0 = 0 then ((impl_PerPage.f a1).bind fun t286 => (some t286)) else (if a0_0 = 1 then (impl_roomOf.j0 k a1 (a0_1 == a1) a0_0 a0_1 a0_2 a0_3) else (impl_roomOf.j0 k a1 false a0_0 a0_1 a0_2 a0_3))
theorem impl_roomOf.mono_l : ∀ k, (∀ y0 y1 y2 y3 y4 y5, LeO (impl_roomOf.j0 k y0 y1 y2 y3 y4 y5) (impl_roomOf.j0 (k + 1) y0 y1 y2 y3 y4 y5))
 | 0 => fun _ _ _ _ _ _ r h => by simp [impl_roomOf.j0] at h
 | k + 1 => by
  have ih0 := impl_roomOf.mono_l k
  ·intro y0 y1 y2 y3 y4 y5
   unfold impl_roomOf.j0
   repeat' first
    | (with_reducible first | exact ih0 .. | exact LeO.refl _ | exact LeO.none _ | refine LeO.ite ?_ ?_ | refine LeO.bind ?_ (fun _ => ?_))
    | exact LeO.none _ | refine LeO.ite ?_ ?_ | refine LeO.bind ?_ (fun _ => ?_)
theorem impl_roomOf.mono : ∀ a0 a1 a2 a3 a4 k, LeO (impl_roomOf.f k a0 a1 a2 a3 a4) (impl_roomOf.f (k + 1) a0 a1 a2 a3 a4) := by
 intro a0 a1 a2 a3 a4 k
 have ih0 := impl_roomOf.mono_l k
 unfold impl_roomOf.f
 repeat' first
  | (with_reducible first | exact ih0 .. | exact LeO.refl _ | exact LeO.none _ | refine LeO.ite ?_ ?_ | refine LeO.bind ?_ (fun _ => ?_))
  | exact LeO.none _ | refine LeO.ite ?_ ?_ | refine LeO.bind ?_ (fun _ => ?_)
set_option maxHeartbeats 8000000 in
set_option maxRecDepth 100000 in
theorem impl_roomOf.calls (k : Nat) (a0_0 : Int) (a0_1 : Int) (a0_2 : Int) (a0_3 : Int) (a1 : Int) (r : Int) (w : World) (h : impl_roomOf.f k a0_0 a0_1 a0_2 a0_3 a1 = some r) :
  Calls Tryd.prog 115 #[.agg #[.int .i64 a0_0, .int .i64 a0_1, .int .u32 a0_2, .int .i64 a0_3], .int .i64 a1] w fun e w' => e = .returned (.int .i64 r) ∧ Below w.heap.size w w' := by
 have hu91 := Tryd.underlying91
 have HB := Aside0.mk (Below.refl w.heap.size w)
 unfold impl_roomOf.f at h
 have H := h
 clear h
 have HU3 := Aside0.mk H
 clear H
 go_enter Tryd.func115, Tryd.ntmps115
 go_upto_if 5 with (first | ((with_reducible refine gd 2 ?_); refine bx 2 91 #[.int .i64 a0_0, .int .i64 a0_1, .int .u32 a0_2, .int .i64 a0_3] ?_; clear HB; intro gb285 w4 hg BK285 hb GE285 HB; clear hb hg; obtain ⟨z5_0, z5_1, z5_2, z5_3⟩ := ca4 BK285; obtain ⟨f5_0, f5_1, f5_2, f5_3⟩ := fa4 BK285))
 repeat (go_quiet (first | ((with_reducible refine gd 2 ?_); refine bx 2 91 #[.int .i64 a0_0, .int .i64 a0_1, .int .u32 a0_2, .int .i64 a0_3] ?_; clear HB; intro gb285 w4 hg BK285 hb GE285 HB; clear hb hg; obtain ⟨z5_0, z5_1, z5_2, z5_3⟩ := ca4 BK285; obtain ⟨f5_0, f5_1, f5_2, f5_3⟩ := fa4 BK285)); go_upto_if 5 with (first | ((with_reducible refine gd 2 ?_); refine bx 2 91 #[.int .i64 a0_0, .int .i64 a0_1, .int .u32 a0_2, .int .i64 a0_3] ?_; clear HB; intro gb285 w4 hg BK285 hb GE285 HB; clear hb hg; obtain ⟨z5_0, z5_1, z5_2, z5_3⟩ := ca4 BK285; obtain ⟨f5_0, f5_1, f5_2, f5_3⟩ := fa4 BK285)))
 (try refine ap ?_)
 have H := HU3.out
 clear HU3
 replace H := ieq H
 rcases H with ⟨c6b0, c6b1, H⟩ | ⟨c6, c6b0, c6b1, H⟩
 ·(first | rw [c6b0] | (simp only [i64_w, i32_w]; rw [c6b0]) | (simp only [c6b2, Bool.not_true, Bool.not_false]) | (simp only [c6b1, Bool.not_true, Bool.not_false]) | skip)
  replace H := bn H
  obtain ⟨t286, A7, H⟩ := H
  try dsimp only at H
  obtain rfl := Option.some.inj H
  go_wp2_with (first | (go_at_call 123; (with_reducible refine (impl_PerPage.calls _ _ _ A7.out).mono ?_); rintro e w' ⟨rfl, ⟨nd, rfl⟩⟩; (try first | exact ⟨rfl, _, World.drewN_drewN _ _ _⟩ | exact ⟨rfl, _, Eq.trans (World.drewN_drewN _ _ _) (congrArg (World.drewN _) (Nat.add_assoc _ _ _))⟩)))
  repeat (go_quiet (first | (go_at_call 123; (with_reducible refine (impl_PerPage.calls _ _ _ A7.out).mono ?_); rintro e w' ⟨rfl, ⟨nd, rfl⟩⟩; (try first | exact ⟨rfl, _, World.drewN_drewN _ _ _⟩ | exact ⟨rfl, _, Eq.trans (World.drewN_drewN _ _ _) (congrArg (World.drewN _) (Nat.add_assoc _ _ _))⟩))); try go_wp2_with (first | (go_at_call 123; (with_reducible refine (impl_PerPage.calls _ _ _ A7.out).mono ?_); rintro e w' ⟨rfl, ⟨nd, rfl⟩⟩; (try first | exact ⟨rfl, _, World.drewN_drewN _ _ _⟩ | exact ⟨rfl, _, Eq.trans (World.drewN_drewN _ _ _) (congrArg (World.drewN _) (Nat.add_assoc _ _ _))⟩))))
  go_ret
  exact ⟨rt, bw⟩
 ·(first | rw [c6b0] | (simp only [i64_w, i32_w]; rw [c6b0]) | (simp only [c6b2, Bool.not_true, Bool.not_false]) | (simp only [c6b1, Bool.not_true, Bool.not_false]) | skip)
  have HC8 := Aside0.mk H
  clear H
  go_upto_region 3 with (fail)
  repeat (go_quiet (fail); go_upto_region 3 with (fail))
  go_cut [11] (fun v11 wc => ∃ (kq : Nat) (x11_7 : Bool), v11 = .bool x11_7 ∧ Aside0 (impl_roomOf.j0 kq a1 x11_7 a0_0 a0_1 a0_2 a0_3 = some r) ∧ Aside0 (kq ≤ k) ∧ Aside0 (wc.heap[gb285]? = some (.cells #[.int .i64 a0_0, .int .i64 a0_1, .int .u32 a0_2, .int .i64 a0_3] 91 (0, 0))) ∧ Aside0 (Below w.heap.size w wc))
  case first => as_aux_lemma =>
   have H := HC8.out
   clear HC8
   replace H := ieq H
   rcases H with ⟨c9b0, c9b1, H⟩ | ⟨c9, c9b0, c9b1, H⟩
   ·(first | rw [c9b0] | (simp only [i64_w, i32_w]; rw [c9b0]) | (simp only [c9b2, Bool.not_true, Bool.not_false]) | (simp only [c9b1, Bool.not_true, Bool.not_false]) | skip)
    have H' := Aside0.mk H
    clear H
    obtain ⟨z10_0, z10_1, z10_2, z10_3⟩ := ca4 BK285
    obtain ⟨f10_0, f10_1, f10_2, f10_3⟩ := fa4 BK285
    go_wp2
    repeat (go_quiet (fail); try go_wp2)
    go_meet
    case rel => exact ⟨_, ((a0_1 == a1)), ev, H', ⟨om⟩, ⟨bk BK285⟩, ⟨bw⟩⟩
   ·(first | rw [c9b0] | (simp only [i64_w, i32_w]; rw [c9b0]) | (simp only [c9b2, Bool.not_true, Bool.not_false]) | (simp only [c9b1, Bool.not_true, Bool.not_false]) | skip)
    have H' := Aside0.mk H
    clear H
    obtain ⟨z11_0, z11_1, z11_2, z11_3⟩ := ca4 BK285
    obtain ⟨f11_0, f11_1, f11_2, f11_3⟩ := fa4 BK285
    go_wp2
    repeat (go_quiet (fail); try go_wp2)
    go_meet
    case rel => exact ⟨_, (false), ev, H', ⟨om⟩, ⟨bk BK285⟩, ⟨bw⟩⟩
  case rest => as_aux_lemma =>
   clear HC8
   try clear c6
   try clear c6b0
   try clear c6b1
   try clear c6b2
   (try clear z5_0 z5_1 z5_2 z5_3)
   (try clear f5_0 f5_1 f5_2 f5_3)
   obtain ⟨kq, x11_7, rfl, HA, HJ7, BK285, HB⟩ := hcut
   cases kq with
   | zero => exact absurd HA.out (by simp [impl_roomOf.j0])
   | succ kj7 =>
    have H := HA.out
    clear HA
    simp only [impl_roomOf.j0] at H
    replace H := ib H
    rcases H with ⟨rfl, H⟩ | ⟨rfl, H⟩
    ·replace H := bn H
     obtain ⟨t287, A13, H⟩ := H
     try dsimp only at H
     replace H := bn H
     obtain ⟨t288, A14, H⟩ := H
     try dsimp only at H
     obtain rfl := Option.some.inj H
     go_wp2_with (first | (go_at_call 123; (with_reducible refine (impl_PerPage.calls _ _ _ A13.out).mono ?_); rintro e w' ⟨rfl, ⟨nd, rfl⟩⟩; (try first | exact ⟨rfl, _, World.drewN_drewN _ _ _⟩ | exact ⟨rfl, _, Eq.trans (World.drewN_drewN _ _ _) (congrArg (World.drewN _) (Nat.add_assoc _ _ _))⟩); obtain ⟨z15_0, z15_1, z15_2, z15_3⟩ := ca4 BK285; obtain ⟨f15_0, f15_1, f15_2, f15_3⟩ := fa4 BK285) | (go_at_call 124; (with_reducible refine (impl_Ones.calls _ _ _ A14.out).mono ?_); rintro e w' ⟨rfl, ⟨nd, rfl⟩⟩; (try first | exact ⟨rfl, _, World.drewN_drewN _ _ _⟩ | exact ⟨rfl, _, Eq.trans (World.drewN_drewN _ _ _) (congrArg (World.drewN _) (Nat.add_assoc _ _ _))⟩)))
     repeat (go_quiet (first | (go_at_call 123; (with_reducible refine (impl_PerPage.calls _ _ _ A13.out).mono ?_); rintro e w' ⟨rfl, ⟨nd, rfl⟩⟩; (try first | exact ⟨rfl, _, World.drewN_drewN _ _ _⟩ | exact ⟨rfl, _, Eq.trans (World.drewN_drewN _ _ _) (congrArg (World.drewN _) (Nat.add_assoc _ _ _))⟩); obtain ⟨z15_0, z15_1, z15_2, z15_3⟩ := ca4 BK285; obtain ⟨f15_0, f15_1, f15_2, f15_3⟩ := fa4 BK285) | (go_at_call 124; (with_reducible refine (impl_Ones.calls _ _ _ A14.out).mono ?_); rintro e w' ⟨rfl, ⟨nd, rfl⟩⟩; (try first | exact ⟨rfl, _, World.drewN_drewN _ _ _⟩ | exact ⟨rfl, _, Eq.trans (World.drewN_drewN _ _ _) (congrArg (World.drewN _) (Nat.add_assoc _ _ _))⟩))); try go_wp2_with (first | (go_at_call 123; (with_reducible refine (impl_PerPage.calls _ _ _ A13.out).mono ?_); rintro e w' ⟨rfl, ⟨nd, rfl⟩⟩; (try first | exact ⟨rfl, _, World.drewN_drewN _ _ _⟩ | exact ⟨rfl, _, Eq.trans (World.drewN_drewN _ _ _) (congrArg (World.drewN _) (Nat.add_assoc _ _ _))⟩); obtain ⟨z15_0, z15_1, z15_2, z15_3⟩ := ca4 BK285; obtain ⟨f15_0, f15_1, f15_2, f15_3⟩ := fa4 BK285) | (go_at_call 124; (with_reducible refine (impl_Ones.calls _ _ _ A14.out).mono ?_); rintro e w' ⟨rfl, ⟨nd, rfl⟩⟩; (try first | exact ⟨rfl, _, World.drewN_drewN _ _ _⟩ | exact ⟨rfl, _, Eq.trans (World.drewN_drewN _ _ _) (congrArg (World.drewN _) (Nat.add_assoc _ _ _))⟩))))
     go_ret
     exact ⟨rt, bw⟩
    ·obtain rfl := Option.some.inj H
     go_wp2
     repeat (go_quiet (fail); try go_wp2)
     go_ret
     exact ⟨rt, bw⟩

/-! ### impl_Room: function 103 -/
def impl_Room.f (k : Nat) (a0 : Int) (a1 : Int) : Option (Int) := (impl_CtlRead.f k a0).bind fun bt289 => (if bt289.2.2.2.2 = true then ((impl_roomOf.f k bt289.1 bt289.2.1 bt289.2.2.1 bt289.2.2.2.1 a1).bind fun t295 => (some t295)) else (some 0))
theorem impl_Room.mono : ∀ a0 a1 k, LeO (impl_Room.f k a0 a1) (impl_Room.f (k + 1) a0 a1) := by
 intro a0 a1 k
 unfold impl_Room.f
 repeat' first
  | (with_reducible first | exact impl_CtlRead.mono .. | exact impl_roomOf.mono .. | exact LeO.refl _ | exact LeO.none _ | refine LeO.ite ?_ ?_ | refine LeO.bind ?_ (fun _ => ?_))
  | exact LeO.none _ | refine LeO.ite ?_ ?_ | refine LeO.bind ?_ (fun _ => ?_)
set_option maxHeartbeats 8000000 in
set_option maxRecDepth 100000 in
theorem impl_Room.calls (k : Nat) (a0 : Int) (a1 : Int) (r : Int) (w : World) (h : impl_Room.f k a0 a1 = some r) :
  Calls Tryd.prog 103 #[.int .u32 a0, .int .i64 a1] w fun e w' => e = .returned (.int .i64 r) ∧ Below w.heap.size w w' := by
 have hu91 := Tryd.underlying91
 have HB := Aside0.mk (Below.refl w.heap.size w)
 unfold impl_Room.f at h
 have H := h
 clear h
 replace H := bn H
 obtain ⟨⟨t289, t290, t291, t292, t293⟩, A3, H⟩ := H
 try dsimp only at H
 have HU4 := Aside0.mk H
 clear H
 go_enter Tryd.func103, Tryd.ntmps103
 go_upto_if 13 with (first | ((with_reducible refine gf 96 ?_); refine gc Tryd.func96 (some 9) (impl_CtlRead.calls _ _ _ _ _ _ _ _ A3.out) ?_; rintro e w5 ⟨rfl, hb⟩; refine ⟨_, rfl, ?_⟩; replace HB := hs hb; try clear hb) | ((with_reducible refine gd 5 ?_); refine bx 5 91 #[.int .i64 0, .int .i64 0, .int .u32 0, .int .i64 0] ?_; clear HB; intro gb294 w6 hg BK294 hb GE294 HB; clear hb hg; obtain ⟨z7_0, z7_1, z7_2, z7_3⟩ := ca4 BK294; obtain ⟨f7_0, f7_1, f7_2, f7_3⟩ := fa4 BK294))
 (try refine ap ?_)
 have H := HU4.out
 clear HU4
 replace H := ib H
 rcases H with ⟨rfl, H⟩ | ⟨rfl, H⟩
 ·(try simp only [Bool.not_true, Bool.not_false])
  replace H := bn H
  obtain ⟨t295, A9, H⟩ := H
  try dsimp only at H
  obtain rfl := Option.some.inj H
  obtain ⟨z10_0, z10_1, z10_2, z10_3⟩ := ca4 BK294
  obtain ⟨f10_0, f10_1, f10_2, f10_3⟩ := fa4 BK294
  go_wp2_with (first | ((with_reducible refine gf 115 ?_); refine gc Tryd.func115 (some 16) (impl_roomOf.calls _ _ _ _ _ _ _ _ A9.out) ?_; rintro e w11 ⟨rfl, hb⟩; refine ⟨_, rfl, ?_⟩; replace BK294 := bq BK294 #[.int .i64 t289, .int .i64 t290, .int .u32 t291, .int .i64 t292] hb; replace HB := hs hb; try clear hb))
  go_ret
  exact ⟨rt, bw⟩
 ·(try simp only [Bool.not_true, Bool.not_false])
  obtain rfl := Option.some.inj H
  go_wp2
  go_ret
  exact ⟨rt, bw⟩

/-! ### impl_ChunksFor: function 104 -/
def impl_ChunksFor.f (a0 : Int) : Option (Int) := (impl_within.f a0 17 256).bind fun t300 => (if t300 = true then (some (wrap64 (Int.tdiv (wrap64 ((wrap64 (a0 + 16)) - 1)) 16))) else (some 0))
set_option maxHeartbeats 8000000 in
set_option maxRecDepth 100000 in
theorem impl_ChunksFor.calls (a0 : Int) (r : Int) (w : World) (h : impl_ChunksFor.f a0 = some r) :
  Calls Tryd.prog 104 #[.int .i64 a0] w fun e w' => e = .returned (.int .i64 r) ∧ Drawn0 w w' := by
 unfold impl_ChunksFor.f at h
 have H := h
 clear h
 replace H := bn H
 obtain ⟨t300, A2, H⟩ := H
 try dsimp only at H
 have HU3 := Aside0.mk H
 clear H
 go_enter Tryd.func104, Tryd.ntmps104
 go_upto_if 5 with (first | ((with_reducible refine gf 72 ?_); refine gc Tryd.func72 (some 4) (impl_within.calls _ _ _ _ _ A2.out) ?_; rintro e w' ⟨rfl, ⟨nd, rfl⟩⟩; refine ⟨_, rfl, ?_⟩))
 (try refine ap ?_)
 have H := HU3.out
 clear HU3
 replace H := ib H
 rcases H with ⟨rfl, H⟩ | ⟨rfl, H⟩
 ·(try simp only [Bool.not_true, Bool.not_false])
  obtain rfl := Option.some.inj H
  go_wp2
  go_ret
  exact ⟨ev, dr⟩
 ·(try simp only [Bool.not_true, Bool.not_false])
  obtain rfl := Option.some.inj H
  go_wp2
  go_ret
  exact ⟨ev, dr⟩

end Go.Proofs.YtfhcnnkeokjfpaaDoor.PM1
