/- What functions of the program compute, each as a Lean function, and that the run comes to just that. Conditions: none. -/
import Derived.Test.YtobboonnfocalaaGreatDoorTG1
import Derived.Test.YtobboonnfocalaaGreatDoorT2G1
import Derived.Test.YtobboonnfocalaaGreatDoorPG1x0
import Derived.Test.YtobboonnfocalaaGreatDoorPG1x3
namespace Go.Proofs.YtobboonnfocalaaGreatDoor.PG1
open Go.RowKit Go.Proofs.YtobboonnfocalaaGreatDoorW.PrintWords Go.Proofs.YtobboonnfocalaaGreatDoorW.PrintLast Go.Proofs.YtobboonnfocalaaGreatDoorW.PrintMore Go.Proofs.YtobboonnfocalaaGreatDoor.T
attribute [local go_sem] max2_int min2_int max_two min_two max_three min_three max_four min_four   -- for this text's walks alone
set_option linter.unusedVariables false
set_option linter.unusedSimpArgs false

/-! ### laws_eqWarpS: function 26 -/
def laws_eqWarpS.l0 : Nat → List (S49) → List (S49) → Int → Option (Bool)
 | 0, _, _, _ => none
 | k + 1, x0, x1, x5 => if x5 < (x0.length : Int) then (if 0 ≤ x5 then (if x5 < (x1.length : Int) then ((laws_eqWarp.f k ((rd_T49 x0 x5).f0) ((rd_T49 x0 x5).f1) ((rd_T49 x0 x5).f2) ((rd_T49 x0 x5).f3) ((rd_T49 x0 x5).f4) ((rd_T49 x0 x5).f5) ((rd_T49 x0 x5).f6) ((rd_T49 x0 x5).f7) ((rd_T49 x1 x5).f0) ((rd_T49 x1 x5).f1) ((rd_T49 x1 x5).f2) ((rd_T49 x1 x5).f3) ((rd_T49 x1 x5).f4) ((rd_T49 x1 x5).f5) ((rd_T49 x1 x5).f6) ((rd_T49 x1 x5).f7)).bind fun t440 => (if t440 = true then (laws_eqWarpS.l0 k x0 x1 (wrap64 (x5 + 1))) else (some false))) else (none)) else (none)) else (some true)
def laws_eqWarpS.f (k : Nat) (l0 : List (S49)) (l1 : List (S49)) : Option (Bool) := if (l0.length : Int) = (l1.length : Int) then (laws_eqWarpS.l0 k l0 l1 0) else (some false)
theorem laws_eqWarpS.mono_l : ∀ k, (∀ y0 y1 y2, LeO (laws_eqWarpS.l0 k y0 y1 y2) (laws_eqWarpS.l0 (k + 1) y0 y1 y2))
 | 0 => fun _ _ _ r h => by simp [laws_eqWarpS.l0] at h
 | k + 1 => by
  have ih0 := laws_eqWarpS.mono_l k
  ·intro y0 y1 y2
   unfold laws_eqWarpS.l0
   repeat' first
    | (with_reducible first | exact ih0 .. | exact laws_eqWarp.mono .. | exact LeO.refl _ | exact LeO.none _ | refine LeO.ite ?_ ?_ | refine LeO.bind ?_ (fun _ => ?_))
    | exact LeO.none _ | refine LeO.ite ?_ ?_ | refine LeO.bind ?_ (fun _ => ?_)
theorem laws_eqWarpS.mono : ∀ a0 a1 k, LeO (laws_eqWarpS.f k a0 a1) (laws_eqWarpS.f (k + 1) a0 a1) := by
 intro a0 a1 k
 have ih0 := laws_eqWarpS.mono_l k
 unfold laws_eqWarpS.f
 repeat' first
  | (with_reducible first | exact ih0 .. | exact laws_eqWarp.mono .. | exact LeO.refl _ | exact LeO.none _ | refine LeO.ite ?_ ?_ | refine LeO.bind ?_ (fun _ => ?_))
  | exact LeO.none _ | refine LeO.ite ?_ ?_ | refine LeO.bind ?_ (fun _ => ?_)
def laws_eqWarpS.T6 : Bool × List (List Nat × List Nat) := (true, [([], []), ([], []), ([0, 1], [0, 1]), ([2], [2]), ([], []), ([], []), ([4, 5], [4, 5]), ([6], [6]), ([3, 7], [3, 7]), ([8], [8])])
def laws_eqWarpS.B6 : List Nat := [0, 0, 3, 7, 0, 0, 48, 112, 255, 511]
theorem laws_eqWarpS.tab6 : rtab .any (opsOf Tryz.f26 6) = laws_eqWarpS.T6 := kr
theorem laws_eqWarpS.bits6 : waitsOk laws_eqWarpS.T6.2 laws_eqWarpS.B6 = true := kr
set_option maxHeartbeats 8000000 in
set_option maxRecDepth 100000 in
theorem laws_eqWarpS.calls (k : Nat) (A0 : Option Addr) (c0 : Nat) (l0 : List (S49)) (A1 : Option Addr) (c1 : Nat) (l1 : List (S49)) (r : Bool) (w : World) (hr0 : Kd.C k49 w A0 l0.length l0) (hc0 : l0.length ≤ c0) (hr1 : Kd.C k49 w A1 l1.length l1) (hc1 : l1.length ≤ c1) (h : laws_eqWarpS.f k l0 l1 = some r) :
  Calls Tryz.prog 26 #[.slice A0 l0.length c0, .slice A1 l1.length c1] w fun e w' => e = .returned (.bool r) ∧ Below w.heap.size w w' := by
 have hu49 := Tryz.underlying49
 have HR0 := Aside0.mk hr0
 have HC0 := Aside0.mk hc0
 clear hr0 hc0
 have HR1 := Aside0.mk hr1
 have HC1 := Aside0.mk hc1
 clear hr1 hc1
 have HB := Aside0.mk (Below.refl w.heap.size w)
 unfold laws_eqWarpS.f at h
 have H := h
 clear h
 by_cases c3 : (l0.length : Int) = (l1.length : Int)
 ·rw [if_pos c3] at H
  have c3b0 : ((l0.length : Int) == (l1.length : Int)) = true := beq_iff_eq.mpr c3
  have c3b1 : ((l0.length : Int) != (l1.length : Int)) = false := bne_eq_false_iff_eq.mpr c3
  have c3b2 : (l0.length == l1.length) = true := by first | simpa using c3 | (simp at c3 ⊢; omega)
  clear c3
  have H' := Aside0.mk H
  clear H
  go_enter Tryz.func26, Tryz.ntmps26
  go_wp2
  go_loopg [5] k (fun kq v5 w' => ∃ (x5_1 : Int), v5 = .int .i64 x5_1 ∧ Aside0 (laws_eqWarpS.l0 kq l0 l1 x5_1 = some r) ∧ Aside0 (kq ≤ k) ∧ Aside0 (Below w.heap.size w w'))
  case atStart => exact ⟨(0), ev, H', ⟨Nat.le_refl _⟩, ⟨bw⟩⟩
  case round =>
   clear H'
   try clear c1
   try clear c3
   try clear c3b0
   try clear c3b1
   try clear c3b2
   obtain ⟨x5_1, rfl, HA, HK1, HB⟩ := hrel
   cases gk with
   | zero => exact absurd HA.out (by simp [laws_eqWarpS.l0])
   | succ k1 =>
    have H := HA.out
    clear HA
    simp only [laws_eqWarpS.l0] at H
    replace H := ilt H
    rcases H with ⟨c4b0, H⟩ | ⟨c4b0, H⟩
    ·by_cases c5 : 0 ≤ x5_1
     ·rw [if_pos c5] at H
      have c5b0 : decide (0 ≤ x5_1) = true := decide_eq_true c5
      clear c5
      by_cases c6 : x5_1 < (l1.length : Int)
      ·rw [if_pos c6] at H
       have c6b0 : decide (x5_1 < (l1.length : Int)) = true := decide_eq_true c6
       clear c6
       replace H := bn H
       obtain ⟨t440, A7, H⟩ := H
       try dsimp only at H
       have HU8 := Aside0.mk H
       clear H
       try go_wp2
       replace HB := hd HB
       have p438 : 0 ≤ (x5_1 : Int) := of_decide_eq_true as_
       have q438 : x5_1 < (l0.length : Int) := of_decide_eq_true as_
       obtain ⟨ad438, A438_1, c438_1, A438_2, c438_2, e438, hx438_0, hx438_1, hx438_2, hx438_3, hx438_4, hx438_5, hx438_6, hx438_7, hl438_1, hi438_1, hl438_2, hi438_2⟩ := at_T49 HR0.out x5_1 p438 q438
       have hw438_7 := hx438_7
       have hw438_6 := hx438_6
       have hw438_5 := hx438_5
       have hw438_4 := hx438_4
       have hw438_3 := hx438_3
       have hw438_2 := hx438_2
       have hw438_1 := hx438_1
       have hw438_0 := hx438_0
       cases e438
       replace hx438_0 := cl HB hx438_0
       replace hx438_1 := cl HB hx438_1
       replace hx438_2 := cl HB hx438_2
       replace hx438_3 := cl HB hx438_3
       replace hx438_4 := cl HB hx438_4
       replace hx438_5 := cl HB hx438_5
       replace hx438_6 := cl HB hx438_6
       replace hx438_7 := cl HB hx438_7
       have HR438_1 := Aside0.mk hi438_1
       have HC438_1 := Aside0.mk hl438_1
       clear hi438_1 hl438_1
       have HR438_2 := Aside0.mk hi438_2
       have HC438_2 := Aside0.mk hl438_2
       clear hi438_2 hl438_2
       replace p438 := eq_true p438
       replace q438 := eq_true q438
       have p439 : 0 ≤ (x5_1 : Int) := of_decide_eq_true as_
       have q439 : x5_1 < (l1.length : Int) := of_decide_eq_true as_
       obtain ⟨ad439, A439_1, c439_1, A439_2, c439_2, e439, hx439_0, hx439_1, hx439_2, hx439_3, hx439_4, hx439_5, hx439_6, hx439_7, hl439_1, hi439_1, hl439_2, hi439_2⟩ := at_T49 HR1.out x5_1 p439 q439
       have hw439_7 := hx439_7
       have hw439_6 := hx439_6
       have hw439_5 := hx439_5
       have hw439_4 := hx439_4
       have hw439_3 := hx439_3
       have hw439_2 := hx439_2
       have hw439_1 := hx439_1
       have hw439_0 := hx439_0
       cases e439
       replace hx439_0 := cl HB hx439_0
       replace hx439_1 := cl HB hx439_1
       replace hx439_2 := cl HB hx439_2
       replace hx439_3 := cl HB hx439_3
       replace hx439_4 := cl HB hx439_4
       replace hx439_5 := cl HB hx439_5
       replace hx439_6 := cl HB hx439_6
       replace hx439_7 := cl HB hx439_7
       have HR439_1 := Aside0.mk hi439_1
       have HC439_1 := Aside0.mk hl439_1
       clear hi439_1 hl439_1
       have HR439_2 := Aside0.mk hi439_2
       have HC439_2 := Aside0.mk hl439_2
       clear hi439_2 hl439_2
       replace p439 := eq_true p439
       replace q439 := eq_true q439
       refine st 10 (fun w' => w'.cell? (ad438.add ((x5_1).toNat * 8)) = some (.int .i64 ((rd_T49 l0 x5_1).f0)) ∧ w'.cell? ⟨(ad438.add ((x5_1).toNat * 8)).block, (ad438.add ((x5_1).toNat * 8)).off + 1, none⟩ = some (.slice A438_1 ((rd_T49 l0 x5_1).f1).length c438_1) ∧ w'.cell? ⟨(ad438.add ((x5_1).toNat * 8)).block, (ad438.add ((x5_1).toNat * 8)).off + 2, none⟩ = some (.slice A438_2 ((rd_T49 l0 x5_1).f2).length c438_2) ∧ w'.cell? ⟨(ad438.add ((x5_1).toNat * 8)).block, (ad438.add ((x5_1).toNat * 8)).off + 3, none⟩ = some (.int .u32 ((rd_T49 l0 x5_1).f3)) ∧ w'.cell? ⟨(ad438.add ((x5_1).toNat * 8)).block, (ad438.add ((x5_1).toNat * 8)).off + 4, none⟩ = some (.int .i64 ((rd_T49 l0 x5_1).f4)) ∧ w'.cell? ⟨(ad438.add ((x5_1).toNat * 8)).block, (ad438.add ((x5_1).toNat * 8)).off + 5, none⟩ = some (.int .i64 ((rd_T49 l0 x5_1).f5)) ∧ w'.cell? ⟨(ad438.add ((x5_1).toNat * 8)).block, (ad438.add ((x5_1).toNat * 8)).off + 6, none⟩ = some (.int .i64 ((rd_T49 l0 x5_1).f6)) ∧ w'.cell? ⟨(ad438.add ((x5_1).toNat * 8)).block, (ad438.add ((x5_1).toNat * 8)).off + 7, none⟩ = some (.int .u32 ((rd_T49 l0 x5_1).f7)) ∧ w'.cell? (ad439.add ((x5_1).toNat * 8)) = some (.int .i64 ((rd_T49 l1 x5_1).f0)) ∧ w'.cell? ⟨(ad439.add ((x5_1).toNat * 8)).block, (ad439.add ((x5_1).toNat * 8)).off + 1, none⟩ = some (.slice A439_1 ((rd_T49 l1 x5_1).f1).length c439_1) ∧ w'.cell? ⟨(ad439.add ((x5_1).toNat * 8)).block, (ad439.add ((x5_1).toNat * 8)).off + 2, none⟩ = some (.slice A439_2 ((rd_T49 l1 x5_1).f2).length c439_2) ∧ w'.cell? ⟨(ad439.add ((x5_1).toNat * 8)).block, (ad439.add ((x5_1).toNat * 8)).off + 3, none⟩ = some (.int .u32 ((rd_T49 l1 x5_1).f3)) ∧ w'.cell? ⟨(ad439.add ((x5_1).toNat * 8)).block, (ad439.add ((x5_1).toNat * 8)).off + 4, none⟩ = some (.int .i64 ((rd_T49 l1 x5_1).f4)) ∧ w'.cell? ⟨(ad439.add ((x5_1).toNat * 8)).block, (ad439.add ((x5_1).toNat * 8)).off + 5, none⟩ = some (.int .i64 ((rd_T49 l1 x5_1).f5)) ∧ w'.cell? ⟨(ad439.add ((x5_1).toNat * 8)).block, (ad439.add ((x5_1).toNat * 8)).off + 6, none⟩ = some (.int .i64 ((rd_T49 l1 x5_1).f6)) ∧ w'.cell? ⟨(ad439.add ((x5_1).toNat * 8)).block, (ad439.add ((x5_1).toNat * 8)).off + 7, none⟩ = some (.int .u32 ((rd_T49 l1 x5_1).f7))) [] ⟨(cl HB hw438_0 :), (cl HB hw438_1 :), (cl HB hw438_2 :), (cl HB hw438_3 :), (cl HB hw438_4 :), (cl HB hw438_5 :), (cl HB hw438_6 :), (cl HB hw438_7 :), (cl HB hw439_0 :), (cl HB hw439_1 :), (cl HB hw439_2 :), (cl HB hw439_3 :), (cl HB hw439_4 :), (cl HB hw439_5 :), (cl HB hw439_6 :), (cl HB hw439_7 :)⟩ laws_eqWarpS.tab6 laws_eqWarpS.bits6 ?_; intro hHeld HT_ HW_
       generalize wr.drew = w9 at HB HR438_1 HR438_2 HR439_1 HR439_2 hx438_0 hx438_1 hx438_2 hx438_3 hx438_4 hx438_5 hx438_6 hx438_7 hx439_0 hx439_1 hx439_2 hx439_3 hx439_4 hx439_5 hx439_6 hx439_7 hHeld ⊢
       refine pu 0 17 (bl 10 1) ?_
       refine pu 1 18 (bl 10 3) ?_
       refine pu 2 19 (bl 10 7) ?_
       refine pu 4 21 (bl 10 23) ?_
       refine pu 5 22 (bl 10 55) ?_
       refine pu 6 23 (bl 10 119) ?_
       refine tk 3 20 (bl 10 127) ?_
       refine tk 7 24 (bl 10 255) ?_
       refine on_ 8 (some 25) (bl 10 511) (fun K hK => ?_)
       refine gq Tryz.func52 (laws_eqWarp.calls _ _ A438_1 c438_1 _ A438_2 c438_2 _ _ _ _ _ _ _ A439_1 c439_1 _ A439_2 c439_2 _ _ _ _ _ _ _ _ (cb HR438_1) HC438_1.out (cb HR438_2) HC438_2.out (cb HR439_1) HC439_1.out (cb HR439_2) HC439_2.out A7.out) ?_
       rintro e w10 ⟨rfl, hb⟩
       refine ⟨_, rfl, ?_⟩
       replace HB := hs hb
       (try clear hb)
       refine hK.out _ _ ⟨(cl HB hw438_0 :), (cl HB hw438_1 :), (cl HB hw438_2 :), (cl HB hw438_3 :), (cl HB hw438_4 :), (cl HB hw438_5 :), (cl HB hw438_6 :), (cl HB hw438_7 :), (cl HB hw439_0 :), (cl HB hw439_1 :), (cl HB hw439_2 :), (cl HB hw439_3 :), (cl HB hw439_4 :), (cl HB hw439_5 :), (cl HB hw439_6 :), (cl HB hw439_7 :)⟩ (fun hHeld => ?_)
       clear hK K
       refine nm ?_
       refine pu 9 26 (bl 10 1023) ?_
       refine dn ?_ _
       go_upto_if 26 with (fail)
       have H := HU8.out
       clear HU8
       replace H := ib H
       rcases H with ⟨rfl, H⟩ | ⟨rfl, H⟩
       ·(try simp only [Bool.not_true, Bool.not_false])
        have H' := Aside0.mk H
        clear H
        go_wp2
        go_roundg k1
        case measure => have := HK1.out; omega
        case rel => exact ⟨(wrap64 (x5_1 + 1)), ev, H', ⟨oa HK1⟩, ⟨bw⟩⟩
       ·(try simp only [Bool.not_true, Bool.not_false])
        obtain rfl := Option.some.inj H
        go_wp2
        go_ret
        exact ⟨rt, bw⟩
      ·rw [if_neg c6] at H
       exact absurd H (by simp)
     ·rw [if_neg c5] at H
      exact absurd H (by simp)
    ·obtain rfl := Option.some.inj H
     go_wp2
     go_ret
     exact ⟨rt, bw⟩
 ·rw [if_neg c3] at H
  have c3b0 : ((l0.length : Int) == (l1.length : Int)) = false := beq_eq_false_iff_ne.mpr c3
  have c3b1 : ((l0.length : Int) != (l1.length : Int)) = true := bne_iff_ne.mpr c3
  have c3b2 : (l0.length == l1.length) = false := by first | simpa using c3 | (simp at c3 ⊢; omega)
  obtain rfl := Option.some.inj H
  go_enter Tryz.func26, Tryz.ntmps26
  go_wp2
  go_ret
  exact ⟨rt, bw⟩

/-! ### laws_eqMach: function 9 -/
def laws_eqMach.f (k : Nat) (l0_0 : List Int) (l0_1 : List (S49)) (l1_0 : List Int) (l1_1 : List (S49)) : Option (Bool) := (laws_eqMem.f k l0_0 l1_0).bind fun t443 => (if t443 = true then ((laws_eqWarpS.f k l0_1 l1_1).bind fun t444 => (if t444 = true then (some true) else (some false))) else (some false))
theorem laws_eqMach.mono : ∀ a0 a1 a2 a3 k, LeO (laws_eqMach.f k a0 a1 a2 a3) (laws_eqMach.f (k + 1) a0 a1 a2 a3) := by
 intro a0 a1 a2 a3 k
 unfold laws_eqMach.f
 repeat' first
  | (with_reducible first | exact laws_eqMem.mono .. | exact laws_eqWarpS.mono .. | exact LeO.refl _ | exact LeO.none _ | refine LeO.ite ?_ ?_ | refine LeO.bind ?_ (fun _ => ?_))
  | exact LeO.none _ | refine LeO.ite ?_ ?_ | refine LeO.bind ?_ (fun _ => ?_)
set_option maxHeartbeats 8000000 in
set_option maxRecDepth 100000 in
theorem laws_eqMach.calls (k : Nat) (A0_0 : Option Addr) (c0_0 : Nat) (l0_0 : List Int) (A0_1 : Option Addr) (c0_1 : Nat) (l0_1 : List (S49)) (A1_0 : Option Addr) (c1_0 : Nat) (l1_0 : List Int) (A1_1 : Option Addr) (c1_1 : Nat) (l1_1 : List (S49)) (r : Bool) (w : World) (hr0_0 : Kd.C (Kd.int .u32) w A0_0 l0_0.length l0_0) (hc0_0 : l0_0.length ≤ c0_0) (hr0_1 : Kd.C k49 w A0_1 l0_1.length l0_1) (hc0_1 : l0_1.length ≤ c0_1) (hr1_0 : Kd.C (Kd.int .u32) w A1_0 l1_0.length l1_0) (hc1_0 : l1_0.length ≤ c1_0) (hr1_1 : Kd.C k49 w A1_1 l1_1.length l1_1) (hc1_1 : l1_1.length ≤ c1_1) (h : laws_eqMach.f k l0_0 l0_1 l1_0 l1_1 = some r) :
  Calls Tryz.prog 9 #[.agg #[.slice A0_0 l0_0.length c0_0, .slice A0_1 l0_1.length c0_1], .agg #[.slice A1_0 l1_0.length c1_0, .slice A1_1 l1_1.length c1_1]] w fun e w' => e = .returned (.bool r) ∧ Below w.heap.size w w' := by
 have hu37 := Tryz.underlying37
 have hu34 := Tryz.underlying34
 have HR0_0 := Aside0.mk hr0_0
 have HC0_0 := Aside0.mk hc0_0
 clear hr0_0 hc0_0
 have HR0_1 := Aside0.mk hr0_1
 have HC0_1 := Aside0.mk hc0_1
 clear hr0_1 hc0_1
 have HR1_0 := Aside0.mk hr1_0
 have HC1_0 := Aside0.mk hc1_0
 clear hr1_0 hc1_0
 have HR1_1 := Aside0.mk hr1_1
 have HC1_1 := Aside0.mk hc1_1
 clear hr1_1 hc1_1
 have HB := Aside0.mk (Below.refl w.heap.size w)
 unfold laws_eqMach.f at h
 have H := h
 clear h
 replace H := bn H
 obtain ⟨t443, A3, H⟩ := H
 try dsimp only at H
 have HU4 := Aside0.mk H
 clear H
 go_enter Tryz.func9, Tryz.ntmps9
 go_upto_if 10 with (first | ((with_reducible refine gd 2 ?_); refine bx 2 37 #[.slice A0_0 l0_0.length c0_0, .slice A0_1 l0_1.length c0_1] ?_; clear HB; intro gb441 w5 hg BK441 hb GE441 HB; clear hb hg) | ((with_reducible refine gd 3 ?_); refine bx 3 37 #[.slice A1_0 l1_0.length c1_0, .slice A1_1 l1_1.length c1_1] ?_; clear HB; intro gb442 w6 hg BK442 hb GE442 HB; have NB441_442 := nl BK441 hg; have NB442_441 := ng BK441 hg; replace BK441 := b_ BK441 hb; clear hb hg; have hnb7 := NB441_442.out; have hnc7 := NB442_441.out; obtain ⟨z8_0, z8_1⟩ := ca2 BK441; obtain ⟨f8_0, f8_1⟩ := fa2 BK441; obtain ⟨z9_0, z9_1⟩ := ca2 BK442; obtain ⟨f9_0, f9_1⟩ := fa2 BK442) | ((with_reducible refine gf 25 ?_); refine gc Tryz.func25 (some 9) (laws_eqMem.calls _ A0_0 c0_0 _ A1_0 c1_0 _ _ _ (cb HR0_0) HC0_0.out (cb HR1_0) HC1_0.out A3.out) ?_; rintro e w10 ⟨rfl, hb⟩; refine ⟨_, rfl, ?_⟩; replace BK441 := b_ BK441 hb; replace BK442 := b_ BK442 hb; replace HB := hs hb; try clear hb))
 (try refine ap ?_)
 have H := HU4.out
 clear HU4
 replace H := ib H
 rcases H with ⟨rfl, H⟩ | ⟨rfl, H⟩
 ·(try simp only [Bool.not_true, Bool.not_false])
  replace H := bn H
  obtain ⟨t444, A12, H⟩ := H
  try dsimp only at H
  have HU13 := Aside0.mk H
  clear H
  have hnb14 := NB441_442.out
  have hnc14 := NB442_441.out
  obtain ⟨z15_0, z15_1⟩ := ca2 BK441
  obtain ⟨f15_0, f15_1⟩ := fa2 BK441
  obtain ⟨z16_0, z16_1⟩ := ca2 BK442
  obtain ⟨f16_0, f16_1⟩ := fa2 BK442
  go_upto_if 16 with (first | ((with_reducible refine gf 26 ?_); refine gc Tryz.func26 (some 15) (laws_eqWarpS.calls _ A0_1 c0_1 _ A1_1 c1_1 _ _ _ (cb HR0_1) HC0_1.out (cb HR1_1) HC1_1.out A12.out) ?_; rintro e w17 ⟨rfl, hb⟩; refine ⟨_, rfl, ?_⟩; replace BK441 := b_ BK441 hb; replace BK442 := b_ BK442 hb; replace HB := hs hb; try clear hb))
  (try refine ap ?_)
  have H := HU13.out
  clear HU13
  replace H := ib H
  rcases H with ⟨rfl, H⟩ | ⟨rfl, H⟩
  ·(try simp only [Bool.not_true, Bool.not_false])
   obtain rfl := Option.some.inj H
   go_wp2
   go_ret
   exact ⟨rt, bw⟩
  ·(try simp only [Bool.not_true, Bool.not_false])
   obtain rfl := Option.some.inj H
   go_wp2
   go_ret
   exact ⟨rt, bw⟩
 ·(try simp only [Bool.not_true, Bool.not_false])
  obtain rfl := Option.some.inj H
  go_wp2
  go_ret
  exact ⟨rt, bw⟩

/-! ### laws_markUint32S: function 53 -/
def laws_markUint32S.l0 : Nat → List Int → Int → Int → Option (Int × List Int)
 | 0, _, _, _ => none
 | k + 1, x0, x1, x5 => if x5 < (x0.length : Int) then (if 0 ≤ x5 then (laws_markUint32S.l0 k (x0.set (x5 : Int).toNat ((x1) % 4294967296)) (wrap64 (x1 + 1)) (wrap64 (x5 + 1))) else (none)) else (some (x1, x0))
def laws_markUint32S.f (k : Nat) (l0 : List Int) (a1 : Int) : Option (Int × List Int) := laws_markUint32S.l0 k l0 a1 0
theorem laws_markUint32S.mono_l : ∀ k, (∀ y0 y1 y2, LeO (laws_markUint32S.l0 k y0 y1 y2) (laws_markUint32S.l0 (k + 1) y0 y1 y2))
 | 0 => fun _ _ _ r h => by simp [laws_markUint32S.l0] at h
 | k + 1 => by
  have ih0 := laws_markUint32S.mono_l k
  ·intro y0 y1 y2
   unfold laws_markUint32S.l0
   repeat' first
    | (with_reducible first | exact ih0 .. | exact LeO.refl _ | exact LeO.none _ | refine LeO.ite ?_ ?_ | refine LeO.bind ?_ (fun _ => ?_))
    | exact LeO.none _ | refine LeO.ite ?_ ?_ | refine LeO.bind ?_ (fun _ => ?_)
theorem laws_markUint32S.mono : ∀ a0 a1 k, LeO (laws_markUint32S.f k a0 a1) (laws_markUint32S.f (k + 1) a0 a1) := by
 intro a0 a1 k
 have ih0 := laws_markUint32S.mono_l k
 unfold laws_markUint32S.f
 repeat' first
  | (with_reducible first | exact ih0 .. | exact LeO.refl _ | exact LeO.none _ | refine LeO.ite ?_ ?_ | refine LeO.bind ?_ (fun _ => ?_))
  | exact LeO.none _ | refine LeO.ite ?_ ?_ | refine LeO.bind ?_ (fun _ => ?_)
set_option maxHeartbeats 8000000 in
set_option maxRecDepth 100000 in
theorem laws_markUint32S.calls (k : Nat) (P0_ : Nat → Prop) (u9000_ : Value) (l0 : List Int) (a1 : Int) (r1 : Int) (r2 : List Int) (w0 w : World) (hB : Below w0.heap.size w0 w) (ho0 : Kd.R (Kd.int .u32) 47 w w0.heap.size P0_ u9000_ l0) (h : laws_markUint32S.f k l0 a1 = some (r1, r2)) :
  Calls Tryz.prog 53 #[u9000_, .int .i64 a1] w fun e w' => e = .returned (.int .i64 r1) ∧ Kd.R (Kd.int .u32) 47 w' w0.heap.size (fun k_ => (P0_ k_ ∨ w.heap.size ≤ k_)) u9000_ r2 ∧ Below w0.heap.size w0 w' ∧ Kept w w' (fun k_ => P0_ k_) := by
 have HO0 := Aside0.mk (show Kd.R (Kd.int .u32) 47 w w0.heap.size (fun k_ => (P0_ k_ ∨ w.heap.size ≤ k_)) u9000_ l0 from Kd.R_mono ho0 (fun k_ hk => (.inl hk)))
 have HK := Aside0.mk (Kept.refl w (fun k_ => P0_ k_))
 have HW0 := Aside0.mk hB.size
 have HB := Aside0.mk hB
 clear hB
 unfold laws_markUint32S.f at h
 have H := h
 clear h
 have H' := Aside0.mk H
 clear H
 go_enter Tryz.func53, Tryz.ntmps53
 go_wp2
 go_loopg [1, 5] k (fun kq v1 v5 w' => ∃ (x0_1 : List Int) (x1_1 : Int) (x5_1 : Int), v1 = .int .i64 x1_1 ∧ v5 = .int .i64 x5_1 ∧ Aside0 (laws_markUint32S.l0 kq x0_1 x1_1 x5_1 = some (r1, r2)) ∧ Aside0 (kq ≤ k) ∧ Aside0 (Kd.R (Kd.int .u32) 47 w' w0.heap.size (fun k_ => (P0_ k_ ∨ w.heap.size ≤ k_)) u9000_ x0_1) ∧ Aside0 (Kept w w' (fun k_ => P0_ k_)) ∧ Aside0 (Below w0.heap.size w0 w'))
 case atStart => exact ⟨(l0), (a1), (0), ev, ev, H', ⟨Nat.le_refl _⟩, ⟨ro HO0⟩, ⟨by repeat (first | (with_reducible first | exact HK.out | apply Kept.alloc | apply Kept.drewN | apply Kept.drew) | exact HK.out)⟩, ⟨bw⟩⟩
 case round =>
  clear H'
  obtain ⟨x0_1, x1_1, x5_1, rfl, rfl, HA, HK1, HO_0, HK, HB⟩ := hrel
  cases gk with
  | zero => exact absurd HA.out (by simp [laws_markUint32S.l0])
  | succ k1 =>
   have H := HA.out
   clear HA
   simp only [laws_markUint32S.l0] at H
   replace H := ilt H
   rcases H with ⟨c3b0, H⟩ | ⟨c3b0, H⟩
   ·by_cases c4 : 0 ≤ x5_1
    ·rw [if_pos c4] at H
     have c4b0 : decide (0 ≤ x5_1) = true := decide_eq_true c4
     clear c4
     obtain ⟨y445, hy445⟩ : ∃ y_ : List Int, y_ = (x0_1.set (x5_1 : Int).toNat ((x1_1) % 4294967296)) := ⟨_, rfl⟩
     rw [← hy445] at H
     try with_reducible replace H := bs H
     have Ny445 := Aside0.mk hy445
     clear hy445
     have H' := Aside0.mk H
     clear H
     obtain ⟨Ao6, co6, eo6⟩ := Kd.R_slice HO_0.out
     subst eo6
     have p5 : 0 ≤ (x5_1 : Int) := of_decide_eq_true as_
     have q5 : (x5_1 : Int) < ((x0_1.length : Int) : Int) := of_decide_eq_true as_
     obtain ⟨go5, co5, eo5, gb5, gl5, cl5, HG5⟩ := Kd.R_form HO_0.out (by omega)
     (first | cases eo5 | (injection eo5 with ea_ en_ ec_; (first | subst ea_ | (injection ea_ with ea_; subst ea_)); subst ec_; clear en_))
     have GB5 := Aside0.mk gb5
     have GG5 := Aside0.mk HG5
     clear gb5 gl5 HG5
     have HMgo5 := Aside0.mk (show (P0_ go5 ∨ w.heap.size ≤ go5) from (HO_0.out.1 _ rfl))
     obtain ⟨hx5_0, hf5_0⟩ := Kd.R_celln 0 HO_0.out (x5_1 : Int) p5 q5
     replace p5 := eq_true p5
     replace q5 := eq_true q5
     have HP7 := Kd.R_putg HO_0.out (x5_1 : Int) ((x1_1) % 4294967296)
     go_wp2_with (first | ((with_reducible refine gate_store (t := 47) (p := 16) rfl ?_); refine store_event (t := 47) (p := 16) (v := ?vo_w8) (w1 := (wr.setCell ⟨go5, (x5_1 : Int).toNat, none⟩ (.int .u32 ((x1_1) % 4294967296)))) ?hg ?ho ?hn ?hr ?_; (case ho => rfl); (case hg => rfl); (case hn => rfl); (case hr => first | (go_simp; done) | (go_simp; rfl)); intro w8 hw; have hg : wr.grownBy w8 (some go5) := (by rw [hw]; exact HP7.2); have hp_ : Kd.R (Kd.int .u32) 47 w8 w0.heap.size (fun k_ => (P0_ k_ ∨ w.heap.size ≤ k_)) (.slice (some ⟨go5, 0, none⟩) x0_1.length co6) y445 := (by rw [hw, Ny445.out]; exact HP7.1); clear HP7; replace HK := Aside0.mk (Kept.of_grown (S := (fun k_ => P0_ k_)) hg (by repeat (first | (with_reducible first | exact HK.out | apply Kept.alloc | apply Kept.drewN | apply Kept.drew) | exact HK.out)) (fun k_ e_ => (HO_0.out.1 k_ e_))); replace HO_0 := Aside0.mk (hp_); replace HB := Aside0.mk ((by rw [hw]; exact below_set (HB.out) GB5.out : Below w0.heap.size w0 w8)); clear hg hw hp_))
     go_roundg k1
     case measure => have := HK1.out; omega
     case rel => exact ⟨(y445), (wrap64 (x1_1 + 1)), (wrap64 (x5_1 + 1)), ev, ev, H', ⟨oa HK1⟩, ⟨ro HO_0⟩, ⟨by repeat (first | (with_reducible first | exact HK.out | apply Kept.alloc | apply Kept.drewN | apply Kept.drew) | exact HK.out)⟩, ⟨bw⟩⟩
    ·rw [if_neg c4] at H
     exact absurd H (by simp)
   ·simp only [Option.some.injEq, Prod.mk.injEq] at H
    obtain ⟨rfl, rfl⟩ := H
    obtain ⟨Ao9, co9, eo9⟩ := Kd.R_slice HO_0.out
    subst eo9
    go_wp2
    go_ret
    exact ⟨rt, ro HO_0, bw, by repeat (first | (with_reducible first | exact HK.out | apply Kept.alloc | apply Kept.drewN | apply Kept.drew) | exact HK.out)⟩

/-! ### laws_markMem: function 27 -/
def laws_markMem.f (k : Nat) (l0_0 : List Int) (a1 : Int) : Option (Int × List Int) := (laws_markUint32S.f k l0_0 a1).bind fun bt447 => (some (bt447.1, bt447.2))
theorem laws_markMem.mono : ∀ a0 a1 k, LeO (laws_markMem.f k a0 a1) (laws_markMem.f (k + 1) a0 a1) := by
 intro a0 a1 k
 unfold laws_markMem.f
 repeat' first
  | (with_reducible first | exact laws_markUint32S.mono .. | exact LeO.refl _ | exact LeO.none _ | refine LeO.ite ?_ ?_ | refine LeO.bind ?_ (fun _ => ?_))
  | exact LeO.none _ | refine LeO.ite ?_ ?_ | refine LeO.bind ?_ (fun _ => ?_)
set_option maxHeartbeats 8000000 in
set_option maxRecDepth 100000 in
theorem laws_markMem.calls (k : Nat) (P0_0_ : Nat → Prop) (u9000_ : Value) (l0_0 : List Int) (a1 : Int) (r1 : Int) (r2 : List Int) (w0 w : World) (hB : Below w0.heap.size w0 w) (ho0_0 : Kd.R (Kd.int .u32) 47 w w0.heap.size P0_0_ u9000_ l0_0) (h : laws_markMem.f k l0_0 a1 = some (r1, r2)) :
  Calls Tryz.prog 27 #[.agg #[u9000_], .int .i64 a1] w fun e w' => e = .returned (.int .i64 r1) ∧ Kd.R (Kd.int .u32) 47 w' w0.heap.size (fun k_ => (P0_0_ k_ ∨ w.heap.size ≤ k_)) u9000_ r2 ∧ Below w0.heap.size w0 w' ∧ Kept w w' (fun k_ => P0_0_ k_) := by
 have hu34 := Tryz.underlying34
 have HO0_0 := Aside0.mk (show Kd.R (Kd.int .u32) 47 w w0.heap.size (fun k_ => (P0_0_ k_ ∨ w.heap.size ≤ k_)) u9000_ l0_0 from Kd.R_mono ho0_0 (fun k_ hk => (.inl hk)))
 have HK := Aside0.mk (Kept.refl w (fun k_ => P0_0_ k_))
 have HW0 := Aside0.mk hB.size
 have HB := Aside0.mk hB
 clear hB
 unfold laws_markMem.f at h
 have H := h
 clear h
 replace H := bn H
 obtain ⟨⟨t447, t448⟩, A3, H⟩ := H
 try dsimp only at H
 simp only [Option.some.injEq, Prod.mk.injEq] at H
 obtain ⟨rfl, rfl⟩ := H
 obtain ⟨Ao4, co4, eo4⟩ := Kd.R_slice HO0_0.out
 subst eo4
 go_enter Tryz.func27, Tryz.ntmps27
 go_wp2_with (first | ((with_reducible refine gd 2 ?_); refine bx0 2 34 #[.slice Ao4 l0_0.length co4] ?_; intro gb446 hg w5 hbox hb; replace HO0_0 := Aside0.mk (Kd.R_below (ro HO0_0) hb); have BK446 := Aside0.mk hbox; have GW446 := Aside0.mk ((by rw [hg]; exact (by first | exact HK.out.1 | exact (show Kept w _ (fun k_ => P0_0_ k_) from by repeat (first | (with_reducible first | exact HK.out | apply Kept.alloc | apply Kept.drewN | apply Kept.drew) | exact HK.out)).1) : w.heap.size ≤ gb446)); replace HK := Aside0.mk (Kept.below (S := (fun k_ => P0_0_ k_)) (by repeat (first | (with_reducible first | exact HK.out | apply Kept.alloc | apply Kept.drewN | apply Kept.drew) | exact HK.out)) hb); have GE446 := Aside0.mk ((by rw [hg]; exact (below_size bw) : w0.heap.size ≤ gb446)); replace HB := hs hb; clear hb hbox hg; have z6_0 := ca1 BK446; have f6_0 := blk_frozen BK446.out 0) | ((with_reducible refine gf 53 ?_); refine gl 53 Tryz.func53 (some 8) #[.slice Ao4 l0_0.length co4, .int .i64 a1] ?_; (with_reducible refine (laws_markUint32S.calls _ (fun k_ => some k_ = (.slice Ao4 l0_0.length co4 : Value).ownBlock) _ _ _ _ _ w0 _ ?side1 ?side2 A3.out).mono ?_); (case side1 => repeat (first | (with_reducible first | exact HB.out | apply below_alloc | apply pw_below_drewN | apply below_drew1 | refine below_set ?_ GE446.out) | exact HB.out)); (case side2 => exact Kd.R_tight rfl HO0_0.out); rintro e w7 ⟨rfl, hy0, hb, hkp⟩; refine ⟨_, rfl, ?_⟩; replace BK446 := Aside0.mk (blk_kept (bk BK446) hkp (fun hs_ => (fun e_ => (Kd.R_ne HO0_0.out BK446.out (by decide)) e_) hs_)); replace HK := Aside0.mk (Kept.then_ (S := (fun k_ => P0_0_ k_)) (by repeat (first | (with_reducible first | exact HK.out | apply Kept.alloc | apply Kept.drewN | apply Kept.drew | refine Kept.setCell ?_ (.inr GW446.out) _) | exact HK.out)) hkp (fun k_ hs_ => (fun e_ => (HO0_0.out.1 k_ e_.symm)) hs_)); replace HO0_0 := Aside0.mk (Kd.R_reok rfl hy0 (fun k_ e_ => HO0_0.out.1 k_ e_)); replace HB := Aside0.mk (hb); (try clear hb); (try clear hkp); (try clear hy0)))
 go_ret
 exact ⟨rt, ro HO0_0, bw, by repeat (first | (with_reducible first | exact HK.out | apply Kept.alloc | apply Kept.drewN | apply Kept.drew | refine Kept.setCell ?_ (.inr GW446.out) _) | exact HK.out)⟩

/-! ### laws_markIntS: function 29 -/
def laws_markIntS.l0 : Nat → List Int → Int → Int → Option (Int × List Int)
 | 0, _, _, _ => none
 | k + 1, x0, x1, x5 => if x5 < (x0.length : Int) then (if 0 ≤ x5 then (laws_markIntS.l0 k (x0.set (x5 : Int).toNat x1) (wrap64 (x1 + 1)) (wrap64 (x5 + 1))) else (none)) else (some (x1, x0))
def laws_markIntS.f (k : Nat) (l0 : List Int) (a1 : Int) : Option (Int × List Int) := laws_markIntS.l0 k l0 a1 0
theorem laws_markIntS.mono_l : ∀ k, (∀ y0 y1 y2, LeO (laws_markIntS.l0 k y0 y1 y2) (laws_markIntS.l0 (k + 1) y0 y1 y2))
 | 0 => fun _ _ _ r h => by simp [laws_markIntS.l0] at h
 | k + 1 => by
  have ih0 := laws_markIntS.mono_l k
  ·intro y0 y1 y2
   unfold laws_markIntS.l0
   repeat' first
    | (with_reducible first | exact ih0 .. | exact LeO.refl _ | exact LeO.none _ | refine LeO.ite ?_ ?_ | refine LeO.bind ?_ (fun _ => ?_))
    | exact LeO.none _ | refine LeO.ite ?_ ?_ | refine LeO.bind ?_ (fun _ => ?_)
theorem laws_markIntS.mono : ∀ a0 a1 k, LeO (laws_markIntS.f k a0 a1) (laws_markIntS.f (k + 1) a0 a1) := by
 intro a0 a1 k
 have ih0 := laws_markIntS.mono_l k
 unfold laws_markIntS.f
 repeat' first
  | (with_reducible first | exact ih0 .. | exact LeO.refl _ | exact LeO.none _ | refine LeO.ite ?_ ?_ | refine LeO.bind ?_ (fun _ => ?_))
  | exact LeO.none _ | refine LeO.ite ?_ ?_ | refine LeO.bind ?_ (fun _ => ?_)
set_option maxHeartbeats 8000000 in
set_option maxRecDepth 100000 in
theorem laws_markIntS.calls (k : Nat) (P0_ : Nat → Prop) (u9000_ : Value) (l0 : List Int) (a1 : Int) (r1 : Int) (r2 : List Int) (w0 w : World) (hB : Below w0.heap.size w0 w) (ho0 : Kd.R (Kd.int .i64) 3 w w0.heap.size P0_ u9000_ l0) (h : laws_markIntS.f k l0 a1 = some (r1, r2)) :
  Calls Tryz.prog 29 #[u9000_, .int .i64 a1] w fun e w' => e = .returned (.int .i64 r1) ∧ Kd.R (Kd.int .i64) 3 w' w0.heap.size (fun k_ => (P0_ k_ ∨ w.heap.size ≤ k_)) u9000_ r2 ∧ Below w0.heap.size w0 w' ∧ Kept w w' (fun k_ => P0_ k_) := by
 have HO0 := Aside0.mk (show Kd.R (Kd.int .i64) 3 w w0.heap.size (fun k_ => (P0_ k_ ∨ w.heap.size ≤ k_)) u9000_ l0 from Kd.R_mono ho0 (fun k_ hk => (.inl hk)))
 have HK := Aside0.mk (Kept.refl w (fun k_ => P0_ k_))
 have HW0 := Aside0.mk hB.size
 have HB := Aside0.mk hB
 clear hB
 unfold laws_markIntS.f at h
 have H := h
 clear h
 have H' := Aside0.mk H
 clear H
 go_enter Tryz.func29, Tryz.ntmps29
 go_wp2
 go_loopg [1, 5] k (fun kq v1 v5 w' => ∃ (x0_1 : List Int) (x1_1 : Int) (x5_1 : Int), v1 = .int .i64 x1_1 ∧ v5 = .int .i64 x5_1 ∧ Aside0 (laws_markIntS.l0 kq x0_1 x1_1 x5_1 = some (r1, r2)) ∧ Aside0 (kq ≤ k) ∧ Aside0 (Kd.R (Kd.int .i64) 3 w' w0.heap.size (fun k_ => (P0_ k_ ∨ w.heap.size ≤ k_)) u9000_ x0_1) ∧ Aside0 (Kept w w' (fun k_ => P0_ k_)) ∧ Aside0 (Below w0.heap.size w0 w'))
 case atStart => exact ⟨(l0), (a1), (0), ev, ev, H', ⟨Nat.le_refl _⟩, ⟨ro HO0⟩, ⟨by repeat (first | (with_reducible first | exact HK.out | apply Kept.alloc | apply Kept.drewN | apply Kept.drew) | exact HK.out)⟩, ⟨bw⟩⟩
 case round =>
  clear H'
  obtain ⟨x0_1, x1_1, x5_1, rfl, rfl, HA, HK1, HO_0, HK, HB⟩ := hrel
  cases gk with
  | zero => exact absurd HA.out (by simp [laws_markIntS.l0])
  | succ k1 =>
   have H := HA.out
   clear HA
   simp only [laws_markIntS.l0] at H
   replace H := ilt H
   rcases H with ⟨c3b0, H⟩ | ⟨c3b0, H⟩
   ·by_cases c4 : 0 ≤ x5_1
    ·rw [if_pos c4] at H
     have c4b0 : decide (0 ≤ x5_1) = true := decide_eq_true c4
     clear c4
     obtain ⟨y449, hy449⟩ : ∃ y_ : List Int, y_ = (x0_1.set (x5_1 : Int).toNat x1_1) := ⟨_, rfl⟩
     rw [← hy449] at H
     try with_reducible replace H := bs H
     have Ny449 := Aside0.mk hy449
     clear hy449
     have H' := Aside0.mk H
     clear H
     obtain ⟨Ao6, co6, eo6⟩ := Kd.R_slice HO_0.out
     subst eo6
     have p5 : 0 ≤ (x5_1 : Int) := of_decide_eq_true as_
     have q5 : (x5_1 : Int) < ((x0_1.length : Int) : Int) := of_decide_eq_true as_
     obtain ⟨go5, co5, eo5, gb5, gl5, cl5, HG5⟩ := Kd.R_form HO_0.out (by omega)
     (first | cases eo5 | (injection eo5 with ea_ en_ ec_; (first | subst ea_ | (injection ea_ with ea_; subst ea_)); subst ec_; clear en_))
     have GB5 := Aside0.mk gb5
     have GG5 := Aside0.mk HG5
     clear gb5 gl5 HG5
     have HMgo5 := Aside0.mk (show (P0_ go5 ∨ w.heap.size ≤ go5) from (HO_0.out.1 _ rfl))
     obtain ⟨hx5_0, hf5_0⟩ := Kd.R_celln 0 HO_0.out (x5_1 : Int) p5 q5
     replace p5 := eq_true p5
     replace q5 := eq_true q5
     have HP7 := Kd.R_putg HO_0.out (x5_1 : Int) x1_1
     go_wp2_with (first | ((with_reducible refine gate_store (t := 3) (p := 15) rfl ?_); refine store_event (t := 3) (p := 15) (v := ?vo_w8) (w1 := (wr.setCell ⟨go5, (x5_1 : Int).toNat, none⟩ (.int .i64 x1_1))) ?hg ?ho ?hn ?hr ?_; (case ho => rfl); (case hg => rfl); (case hn => rfl); (case hr => first | (go_simp; done) | (go_simp; rfl)); intro w8 hw; have hg : wr.grownBy w8 (some go5) := (by rw [hw]; exact HP7.2); have hp_ : Kd.R (Kd.int .i64) 3 w8 w0.heap.size (fun k_ => (P0_ k_ ∨ w.heap.size ≤ k_)) (.slice (some ⟨go5, 0, none⟩) x0_1.length co6) y449 := (by rw [hw, Ny449.out]; exact HP7.1); clear HP7; replace HK := Aside0.mk (Kept.of_grown (S := (fun k_ => P0_ k_)) hg (by repeat (first | (with_reducible first | exact HK.out | apply Kept.alloc | apply Kept.drewN | apply Kept.drew) | exact HK.out)) (fun k_ e_ => (HO_0.out.1 k_ e_))); replace HO_0 := Aside0.mk (hp_); replace HB := Aside0.mk ((by rw [hw]; exact below_set (HB.out) GB5.out : Below w0.heap.size w0 w8)); clear hg hw hp_))
     go_roundg k1
     case measure => have := HK1.out; omega
     case rel => exact ⟨(y449), (wrap64 (x1_1 + 1)), (wrap64 (x5_1 + 1)), ev, ev, H', ⟨oa HK1⟩, ⟨ro HO_0⟩, ⟨by repeat (first | (with_reducible first | exact HK.out | apply Kept.alloc | apply Kept.drewN | apply Kept.drew) | exact HK.out)⟩, ⟨bw⟩⟩
    ·rw [if_neg c4] at H
     exact absurd H (by simp)
   ·simp only [Option.some.injEq, Prod.mk.injEq] at H
    obtain ⟨rfl, rfl⟩ := H
    obtain ⟨Ao9, co9, eo9⟩ := Kd.R_slice HO_0.out
    subst eo9
    go_wp2
    go_ret
    exact ⟨rt, ro HO_0, bw, by repeat (first | (with_reducible first | exact HK.out | apply Kept.alloc | apply Kept.drewN | apply Kept.drew) | exact HK.out)⟩

/-! ### laws_markReq: function 11 -/
def laws_markReq.f (k : Nat) (a0_0 : Int) (l0_1 : List Int) (a1 : Int) : Option (Int × List Int) := (laws_markIntS.f k l0_1 a1).bind fun bt451 => (some (bt451.1, bt451.2))
theorem laws_markReq.mono : ∀ a0 a1 a2 k, LeO (laws_markReq.f k a0 a1 a2) (laws_markReq.f (k + 1) a0 a1 a2) := by
 intro a0 a1 a2 k
 unfold laws_markReq.f
 repeat' first
  | (with_reducible first | exact laws_markIntS.mono .. | exact LeO.refl _ | exact LeO.none _ | refine LeO.ite ?_ ?_ | refine LeO.bind ?_ (fun _ => ?_))
  | exact LeO.none _ | refine LeO.ite ?_ ?_ | refine LeO.bind ?_ (fun _ => ?_)
set_option maxHeartbeats 8000000 in
set_option maxRecDepth 100000 in
theorem laws_markReq.calls (k : Nat) (a0_0 : Int) (P0_1_ : Nat → Prop) (u9000_ : Value) (l0_1 : List Int) (a1 : Int) (r1 : Int) (r2 : List Int) (w0 w : World) (hB : Below w0.heap.size w0 w) (ho0_1 : Kd.R (Kd.int .i64) 3 w w0.heap.size P0_1_ u9000_ l0_1) (h : laws_markReq.f k a0_0 l0_1 a1 = some (r1, r2)) :
  Calls Tryz.prog 11 #[.agg #[.int .i64 a0_0, u9000_], .int .i64 a1] w fun e w' => e = .returned (.int .i64 r1) ∧ Kd.R (Kd.int .i64) 3 w' w0.heap.size (fun k_ => (P0_1_ k_ ∨ w.heap.size ≤ k_)) u9000_ r2 ∧ Below w0.heap.size w0 w' ∧ Kept w w' (fun k_ => P0_1_ k_) := by
 have hu31 := Tryz.underlying31
 have HO0_1 := Aside0.mk (show Kd.R (Kd.int .i64) 3 w w0.heap.size (fun k_ => (P0_1_ k_ ∨ w.heap.size ≤ k_)) u9000_ l0_1 from Kd.R_mono ho0_1 (fun k_ hk => (.inl hk)))
 have HK := Aside0.mk (Kept.refl w (fun k_ => P0_1_ k_))
 have HW0 := Aside0.mk hB.size
 have HB := Aside0.mk hB
 clear hB
 unfold laws_markReq.f at h
 have H := h
 clear h
 replace H := bn H
 obtain ⟨⟨t451, t452⟩, A3, H⟩ := H
 try dsimp only at H
 simp only [Option.some.injEq, Prod.mk.injEq] at H
 obtain ⟨rfl, rfl⟩ := H
 obtain ⟨Ao4, co4, eo4⟩ := Kd.R_slice HO0_1.out
 subst eo4
 go_enter Tryz.func11, Tryz.ntmps11
 go_wp2_with (first | ((with_reducible refine gd 2 ?_); refine bx0 2 31 #[.int .i64 a0_0, .slice Ao4 l0_1.length co4] ?_; intro gb450 hg w5 hbox hb; replace HO0_1 := Aside0.mk (Kd.R_below (ro HO0_1) hb); have BK450 := Aside0.mk hbox; have GW450 := Aside0.mk ((by rw [hg]; exact (by first | exact HK.out.1 | exact (show Kept w _ (fun k_ => P0_1_ k_) from by repeat (first | (with_reducible first | exact HK.out | apply Kept.alloc | apply Kept.drewN | apply Kept.drew) | exact HK.out)).1) : w.heap.size ≤ gb450)); replace HK := Aside0.mk (Kept.below (S := (fun k_ => P0_1_ k_)) (by repeat (first | (with_reducible first | exact HK.out | apply Kept.alloc | apply Kept.drewN | apply Kept.drew) | exact HK.out)) hb); have GE450 := Aside0.mk ((by rw [hg]; exact (below_size bw) : w0.heap.size ≤ gb450)); replace HB := hs hb; clear hb hbox hg; obtain ⟨z6_0, z6_1⟩ := ca2 BK450; obtain ⟨f6_0, f6_1⟩ := fa2 BK450) | ((with_reducible refine gf 29 ?_); refine gl 29 Tryz.func29 (some 8) #[.slice Ao4 l0_1.length co4, .int .i64 a1] ?_; (with_reducible refine (laws_markIntS.calls _ (fun k_ => some k_ = (.slice Ao4 l0_1.length co4 : Value).ownBlock) _ _ _ _ _ w0 _ ?side1 ?side2 A3.out).mono ?_); (case side1 => repeat (first | (with_reducible first | exact HB.out | apply below_alloc | apply pw_below_drewN | apply below_drew1 | refine below_set ?_ GE450.out) | exact HB.out)); (case side2 => exact Kd.R_tight rfl HO0_1.out); rintro e w7 ⟨rfl, hy0, hb, hkp⟩; refine ⟨_, rfl, ?_⟩; replace BK450 := Aside0.mk (blk_kept (bk BK450) hkp (fun hs_ => (fun e_ => (Kd.R_ne HO0_1.out BK450.out (by decide)) e_) hs_)); replace HK := Aside0.mk (Kept.then_ (S := (fun k_ => P0_1_ k_)) (by repeat (first | (with_reducible first | exact HK.out | apply Kept.alloc | apply Kept.drewN | apply Kept.drew | refine Kept.setCell ?_ (.inr GW450.out) _) | exact HK.out)) hkp (fun k_ hs_ => (fun e_ => (HO0_1.out.1 k_ e_.symm)) hs_)); replace HO0_1 := Aside0.mk (Kd.R_reok rfl hy0 (fun k_ e_ => HO0_1.out.1 k_ e_)); replace HB := Aside0.mk (hb); (try clear hb); (try clear hkp); (try clear hy0)))
 go_ret
 exact ⟨rt, ro HO0_1, bw, by repeat (first | (with_reducible first | exact HK.out | apply Kept.alloc | apply Kept.drewN | apply Kept.drew | refine Kept.setCell ?_ (.inr GW450.out) _) | exact HK.out)⟩

/-! ### laws_heldIntS: function 30 -/
def laws_heldIntS.l0 : Nat → List Int → Int → Int → Option (Int)
 | 0, _, _, _ => none
 | k + 1, x0, x1, x5 => if x5 < (x0.length : Int) then (if 0 ≤ x5 then (if (rd x0 x5) = x1 then (laws_heldIntS.l0 k x0 (wrap64 (x1 + 1)) (wrap64 (x5 + 1))) else (some (-1))) else (none)) else (some x1)
def laws_heldIntS.f (k : Nat) (l0 : List Int) (a1 : Int) : Option (Int) := laws_heldIntS.l0 k l0 a1 0
theorem laws_heldIntS.mono_l : ∀ k, (∀ y0 y1 y2, LeO (laws_heldIntS.l0 k y0 y1 y2) (laws_heldIntS.l0 (k + 1) y0 y1 y2))
 | 0 => fun _ _ _ r h => by simp [laws_heldIntS.l0] at h
 | k + 1 => by
  have ih0 := laws_heldIntS.mono_l k
  ·intro y0 y1 y2
   unfold laws_heldIntS.l0
   repeat' first
    | (with_reducible first | exact ih0 .. | exact LeO.refl _ | exact LeO.none _ | refine LeO.ite ?_ ?_ | refine LeO.bind ?_ (fun _ => ?_))
    | exact LeO.none _ | refine LeO.ite ?_ ?_ | refine LeO.bind ?_ (fun _ => ?_)
theorem laws_heldIntS.mono : ∀ a0 a1 k, LeO (laws_heldIntS.f k a0 a1) (laws_heldIntS.f (k + 1) a0 a1) := by
 intro a0 a1 k
 have ih0 := laws_heldIntS.mono_l k
 unfold laws_heldIntS.f
 repeat' first
  | (with_reducible first | exact ih0 .. | exact LeO.refl _ | exact LeO.none _ | refine LeO.ite ?_ ?_ | refine LeO.bind ?_ (fun _ => ?_))
  | exact LeO.none _ | refine LeO.ite ?_ ?_ | refine LeO.bind ?_ (fun _ => ?_)
set_option maxHeartbeats 8000000 in
set_option maxRecDepth 100000 in
theorem laws_heldIntS.calls (k : Nat) (A0 : Option Addr) (c0 : Nat) (l0 : List Int) (a1 : Int) (r : Int) (w : World) (hr0 : Kd.C (Kd.int .i64) w A0 l0.length l0) (hc0 : l0.length ≤ c0) (h : laws_heldIntS.f k l0 a1 = some r) :
  Calls Tryz.prog 30 #[.slice A0 l0.length c0, .int .i64 a1] w fun e w' => e = .returned (.int .i64 r) ∧ Drawn0 w w' := by
 have HR0 := Aside0.mk hr0
 have HC0 := Aside0.mk hc0
 clear hr0 hc0
 unfold laws_heldIntS.f at h
 have H := h
 clear h
 have H' := Aside0.mk H
 clear H
 go_enter Tryz.func30, Tryz.ntmps30
 go_wp2
 go_loopg [1, 5] k (fun kq v1 v5 w' => ∃ (x1_1 : Int) (x5_1 : Int), v1 = .int .i64 x1_1 ∧ v5 = .int .i64 x5_1 ∧ Aside0 (laws_heldIntS.l0 kq l0 x1_1 x5_1 = some r) ∧ Aside0 (kq ≤ k) ∧ Drawn0 w w')
 case atStart => exact ⟨(a1), (0), ev, ev, H', ⟨Nat.le_refl _⟩, dr⟩
 case round =>
  clear H'
  obtain ⟨x1_1, x5_1, rfl, rfl, HA, HK1, ⟨m1, rfl⟩⟩ := hrel
  cases gk with
  | zero => exact absurd HA.out (by simp [laws_heldIntS.l0])
  | succ k1 =>
   have H := HA.out
   clear HA
   simp only [laws_heldIntS.l0] at H
   replace H := ilt H
   rcases H with ⟨c3b0, H⟩ | ⟨c3b0, H⟩
   ·by_cases c4 : 0 ≤ x5_1
    ·rw [if_pos c4] at H
     have c4b0 : decide (0 ≤ x5_1) = true := decide_eq_true c4
     clear c4
     replace H := ieq H
     rcases H with ⟨c5b0, c5b1, H⟩ | ⟨c5, c5b0, c5b1, H⟩
     ·have H' := Aside0.mk H
      clear H
      have p453 : 0 ≤ (x5_1 : Int) := of_decide_eq_true as_
      have q453 : x5_1 < (l0.length : Int) := of_decide_eq_true as_
      obtain ⟨ad453, e453, hx453_0⟩ := Kd.at_int HR0.out x5_1 p453 q453
      cases e453
      replace p453 := eq_true p453
      replace q453 := eq_true q453
      go_wp2
      go_roundg k1
      case measure => have := HK1.out; omega
      case rel => exact ⟨(wrap64 (x1_1 + 1)), (wrap64 (x5_1 + 1)), ev, ev, H', ⟨oa HK1⟩, dr⟩
     ·obtain rfl := Option.some.inj H
      have p453 : 0 ≤ (x5_1 : Int) := of_decide_eq_true as_
      have q453 : x5_1 < (l0.length : Int) := of_decide_eq_true as_
      obtain ⟨ad453, e453, hx453_0⟩ := Kd.at_int HR0.out x5_1 p453 q453
      cases e453
      replace p453 := eq_true p453
      replace q453 := eq_true q453
      go_wp2
      go_ret
      exact ⟨ev, dr⟩
    ·rw [if_neg c4] at H
     exact absurd H (by simp)
   ·obtain rfl := Option.some.inj H
    go_wp2
    go_ret
    exact ⟨ev, dr⟩

/-! ### laws_heldReq: function 12 -/
def laws_heldReq.f (k : Nat) (a0_0 : Int) (l0_1 : List Int) (a1 : Int) : Option (Int) := (laws_heldIntS.f k l0_1 a1).bind fun t455 => (if t455 < 0 then (some (-1)) else (some t455))
theorem laws_heldReq.mono : ∀ a0 a1 a2 k, LeO (laws_heldReq.f k a0 a1 a2) (laws_heldReq.f (k + 1) a0 a1 a2) := by
 intro a0 a1 a2 k
 unfold laws_heldReq.f
 repeat' first
  | (with_reducible first | exact laws_heldIntS.mono .. | exact LeO.refl _ | exact LeO.none _ | refine LeO.ite ?_ ?_ | refine LeO.bind ?_ (fun _ => ?_))
  | exact LeO.none _ | refine LeO.ite ?_ ?_ | refine LeO.bind ?_ (fun _ => ?_)
set_option maxHeartbeats 8000000 in
set_option maxRecDepth 100000 in
theorem laws_heldReq.calls (k : Nat) (a0_0 : Int) (A0_1 : Option Addr) (c0_1 : Nat) (l0_1 : List Int) (a1 : Int) (r : Int) (w : World) (hr0_1 : Kd.C (Kd.int .i64) w A0_1 l0_1.length l0_1) (hc0_1 : l0_1.length ≤ c0_1) (h : laws_heldReq.f k a0_0 l0_1 a1 = some r) :
  Calls Tryz.prog 12 #[.agg #[.int .i64 a0_0, .slice A0_1 l0_1.length c0_1], .int .i64 a1] w fun e w' => e = .returned (.int .i64 r) ∧ Below w.heap.size w w' := by
 have hu31 := Tryz.underlying31
 have HR0_1 := Aside0.mk hr0_1
 have HC0_1 := Aside0.mk hc0_1
 clear hr0_1 hc0_1
 have HB := Aside0.mk (Below.refl w.heap.size w)
 unfold laws_heldReq.f at h
 have H := h
 clear h
 replace H := bn H
 obtain ⟨t455, A3, H⟩ := H
 try dsimp only at H
 have HU4 := Aside0.mk H
 clear H
 go_enter Tryz.func12, Tryz.ntmps12
 go_upto_if 10 with (first | ((with_reducible refine gd 2 ?_); refine bx 2 31 #[.int .i64 a0_0, .slice A0_1 l0_1.length c0_1] ?_; clear HB; intro gb454 w5 hg BK454 hb GE454 HB; clear hb hg; obtain ⟨z6_0, z6_1⟩ := ca2 BK454; obtain ⟨f6_0, f6_1⟩ := fa2 BK454) | ((with_reducible refine gf 30 ?_); refine gc Tryz.func30 (some 8) (laws_heldIntS.calls _ A0_1 c0_1 _ _ _ _ (cb HR0_1) HC0_1.out A3.out) ?_; rintro e w' ⟨rfl, ⟨nd, rfl⟩⟩; refine ⟨_, rfl, ?_⟩))
 (try refine ap ?_)
 have H := HU4.out
 clear HU4
 replace H := ilt H
 rcases H with ⟨c7b0, H⟩ | ⟨c7b0, H⟩
 ·(first | rw [c7b0] | (simp only [i64_w, i32_w]; rw [c7b0]) | (simp only [c7b2, Bool.not_true, Bool.not_false]) | (simp only [c7b1, Bool.not_true, Bool.not_false]) | skip)
  obtain rfl := Option.some.inj H
  go_wp2
  go_ret
  exact ⟨rt, bw⟩
 ·(first | rw [c7b0] | (simp only [i64_w, i32_w]; rw [c7b0]) | (simp only [c7b2, Bool.not_true, Bool.not_false]) | (simp only [c7b1, Bool.not_true, Bool.not_false]) | skip)
  obtain rfl := Option.some.inj H
  go_wp2
  go_ret
  exact ⟨rt, bw⟩

end Go.Proofs.YtobboonnfocalaaGreatDoor.PG1
namespace Go.Proofs.YtobboonnfocalaaGreatDoor.PG1
open Go.RowKit Go.Proofs.YtobboonnfocalaaGreatDoorW.PrintWords Go.Proofs.YtobboonnfocalaaGreatDoorW.PrintLast Go.Proofs.YtobboonnfocalaaGreatDoorW.PrintMore Go.Proofs.YtobboonnfocalaaGreatDoor.T
attribute [local go_sem] max2_int min2_int max_two min_two max_three min_three max_four min_four   -- for this text's walks alone
set_option linter.unusedVariables false
set_option linter.unusedSimpArgs false

theorem shl_one_ (n : Int) : shl IntKind.u32 1 n = 2 ^ n.toNat % 4294967296 := by
 have e : shl IntKind.u32 1 n = IntKind.u32.wrap (1 * 2 ^ min n.toNat 32) := rfl
 rw [e]
 have w : ∀ x : Int, IntKind.u32.wrap x = x % 4294967296 := fun x => by simp [IntKind.wrap, IntKind.signed, IntKind.bits]
 rw [w, Int.one_mul]
 by_cases h : n.toNat ≤ 32
 ·rw [Nat.min_eq_left h]
 ·rw [Nat.min_eq_right (by omega)]
  obtain ⟨d, hd⟩ : ∃ d, n.toNat = 32 + d := ⟨n.toNat - 32, by omega⟩
  rw [hd, Int.pow_add]
  have h2 : (2 : Int) ^ 32 = 4294967296 := by decide
  rw [h2]
  omega

/-! ### impl_isMask: function 72 -/
def impl_isMask.f (a0 : Int) : Option (Bool) := some (decide (a0 < 256))
set_option maxHeartbeats 2000000 in
set_option maxRecDepth 100000 in
theorem impl_isMask.calls (a0 : Int) (r : Bool) (w : World) (h : impl_isMask.f a0 = some r) :
  Calls Tryz.prog 72 #[.int .u32 a0] w fun e w' => e = .returned (.bool r) ∧ Drawn0 w w' := by
 unfold impl_isMask.f at h
 have H := h
 clear h
 obtain rfl := Option.some.inj H
 go_enter Tryz.func72, Tryz.ntmps72
 go_wp2
 go_ret
 exact ⟨ev, dr⟩

/-! ### impl_asks: function 74 -/
def impl_asks.l0 : Nat → Int → List Int → Int → Int → Int → List Int → Option (Int)
 | 0, _, _, _, _, _, _ => none
 | k + 1, x3, x7, x8, x9, x511000, x511001 => if x9 < x8 then (if 0 ≤ x9 then (if x9 < (x7.length : Int) then (if x511000 = 1 then (if (rd x7 x9) > 0 then (impl_asks.l0 k (Go.bits .or .u32 x3 (shl .u32 1 x9)) x7 x8 (wrap64 (x9 + 1)) x511000 x511001) else (if x511000 = 2 then (if (rd x7 x9) ≥ 0 then (impl_asks.l0 k (Go.bits .or .u32 x3 (shl .u32 1 x9)) x7 x8 (wrap64 (x9 + 1)) x511000 x511001) else (impl_asks.l0 k x3 x7 x8 (wrap64 (x9 + 1)) x511000 x511001)) else (impl_asks.l0 k x3 x7 x8 (wrap64 (x9 + 1)) x511000 x511001))) else (if x511000 = 2 then (if (rd x7 x9) ≥ 0 then (impl_asks.l0 k (Go.bits .or .u32 x3 (shl .u32 1 x9)) x7 x8 (wrap64 (x9 + 1)) x511000 x511001) else (impl_asks.l0 k x3 x7 x8 (wrap64 (x9 + 1)) x511000 x511001)) else (impl_asks.l0 k x3 x7 x8 (wrap64 (x9 + 1)) x511000 x511001))) else (none)) else (none)) else (some x3)
def impl_asks.f (k : Nat) (a0_0 : Int) (l0_1 : List Int) : Option (Int) := impl_asks.l0 k 0 l0_1 (l0_1.length : Int) 0 a0_0 l0_1
theorem impl_asks.mono_l : ∀ k, (∀ y0 y1 y2 y3 y4 y5, LeO (impl_asks.l0 k y0 y1 y2 y3 y4 y5) (impl_asks.l0 (k + 1) y0 y1 y2 y3 y4 y5))
 | 0 => fun _ _ _ _ _ _ r h => by simp [impl_asks.l0] at h
 | k + 1 => by
  have ih0 := impl_asks.mono_l k
  ·intro y0 y1 y2 y3 y4 y5
   unfold impl_asks.l0
   repeat' first
    | (with_reducible first | exact ih0 .. | exact LeO.refl _ | exact LeO.none _ | refine LeO.ite ?_ ?_ | refine LeO.bind ?_ (fun _ => ?_))
    | exact LeO.none _ | refine LeO.ite ?_ ?_ | refine LeO.bind ?_ (fun _ => ?_)
theorem impl_asks.mono : ∀ a0 a1 k, LeO (impl_asks.f k a0 a1) (impl_asks.f (k + 1) a0 a1) := by
 intro a0 a1 k
 have ih0 := impl_asks.mono_l k
 unfold impl_asks.f
 repeat' first
  | (with_reducible first | exact ih0 .. | exact LeO.refl _ | exact LeO.none _ | refine LeO.ite ?_ ?_ | refine LeO.bind ?_ (fun _ => ?_))
  | exact LeO.none _ | refine LeO.ite ?_ ?_ | refine LeO.bind ?_ (fun _ => ?_)
set_option maxHeartbeats 2000000 in
set_option maxRecDepth 100000 in
theorem impl_asks.calls (k : Nat) (a0_0 : Int) (A0_1 : Option Addr) (c0_1 : Nat) (l0_1 : List Int) (r : Int) (w : World) (hr0_1 : Kd.C (Kd.int .i64) w A0_1 l0_1.length l0_1) (hc0_1 : l0_1.length ≤ c0_1) (h : impl_asks.f k a0_0 l0_1 = some r) :
  Calls Tryz.prog 74 #[.agg #[.int .i64 a0_0, .slice A0_1 l0_1.length c0_1]] w fun e w' => e = .returned (.int .u32 r) ∧ Below w.heap.size w w' := by
 have hu31 := Tryz.underlying31
 have HR0_1 := Aside0.mk hr0_1
 have HC0_1 := Aside0.mk hc0_1
 clear hr0_1 hc0_1
 have HB := Aside0.mk (Below.refl w.heap.size w)
 unfold impl_asks.f at h
 have H := h
 clear h
 have H' := Aside0.mk H
 clear H
 go_enter Tryz.func74, Tryz.ntmps74
 go_wp2_with (first | ((with_reducible refine gd 1 ?_); refine bx 1 31 #[.int .i64 a0_0, .slice A0_1 l0_1.length c0_1] ?_; clear HB; intro gb510 w2 hg BK510 hb GE510 HB; clear hb hg; obtain ⟨z3_0, z3_1⟩ := ca2 BK510; obtain ⟨f3_0, f3_1⟩ := fa2 BK510))
 go_loopg [3, 9] k (fun kq v3 v9 w' => ∃ (x3_1 : Int) (x9_1 : Int), v3 = .int .u32 x3_1 ∧ v9 = .int .i64 x9_1 ∧ Aside0 (impl_asks.l0 kq x3_1 l0_1 (l0_1.length : Int) x9_1 a0_0 l0_1 = some r) ∧ Aside0 (kq ≤ k) ∧ Aside0 (w'.heap[gb510]? = some (.cells #[.int .i64 a0_0, (.slice A0_1 l0_1.length c0_1)] 31 (0, 0))) ∧ Aside0 (Below w.heap.size w w'))
 case atStart => exact ⟨(0), (0), ev, ev, H', ⟨Nat.le_refl _⟩, ⟨bk BK510⟩, ⟨bw⟩⟩
 case round =>
  clear H'
  (try clear z3_0 z3_1)
  (try clear f3_0 f3_1)
  obtain ⟨x3_1, x9_1, rfl, rfl, HA, HK1, BK510, HB⟩ := hrel
  cases gk with
  | zero => exact absurd HA.out (by simp [impl_asks.l0])
  | succ k1 =>
   have H := HA.out
   clear HA
   simp only [impl_asks.l0] at H
   replace H := ilt H
   rcases H with ⟨c4b0, H⟩ | ⟨c4b0, H⟩
   ·by_cases c5 : 0 ≤ x9_1
    ·rw [if_pos c5] at H
     have c5b0 : decide (0 ≤ x9_1) = true := decide_eq_true c5
     clear c5
     by_cases c6 : x9_1 < (l0_1.length : Int)
     ·rw [if_pos c6] at H
      have c6b0 : decide (x9_1 < (l0_1.length : Int)) = true := decide_eq_true c6
      clear c6
      replace H := ieq H
      rcases H with ⟨c7b0, c7b1, H⟩ | ⟨c7, c7b0, c7b1, H⟩
      ·replace H := igt H
       rcases H with ⟨c8b0, H⟩ | ⟨c8b0, H⟩
       ·have c9b0 := eq_true (of_decide_eq_true as_ : 0 ≤ x9_1)
        obtain ⟨ji10, hji10⟩ : ∃ j_ : Int, (shl .u32 1 x9_1) = j_ := ⟨_, rfl⟩
        first | rw [hji10] at H | simp only [hji10] at H
        have hji10_ : (IntKind.u32.wrap (1 * 2 ^ min x9_1.toNat 32)) = ji10 := hji10
        have hji10z : x9_1 ≤ 32 → (IntKind.u32.wrap (1 * 2 ^ x9_1.toNat)) = ji10 := shl_small hji10
        have hji10u : (IntKind.u32.wrap (2 ^ min x9_1.toNat 32)) = ji10 := by have h_ := hji10_; rw [Int.one_mul] at h_; exact h_
        have hji10v : x9_1 ≤ 32 → (IntKind.u32.wrap (2 ^ x9_1.toNat)) = ji10 := fun hle_ => by have h_ := hji10z hle_; rw [Int.one_mul] at h_; exact h_
        have H' := Aside0.mk H
        clear H
        have p511 : 0 ≤ (x9_1 : Int) := of_decide_eq_true as_
        have q511 : x9_1 < (l0_1.length : Int) := of_decide_eq_true as_
        obtain ⟨ad511, e511, hx511_0⟩ := Kd.at_int HR0_1.out x9_1 p511 q511
        cases e511
        replace hx511_0 := cl HB hx511_0
        replace p511 := eq_true p511
        replace q511 := eq_true q511
        obtain ⟨z11_0, z11_1⟩ := ca2 BK510
        obtain ⟨f11_0, f11_1⟩ := fa2 BK510
        go_wp2
        go_roundg k1
        case measure => have := HK1.out; omega
        case rel => exact ⟨(Go.bits .or .u32 x3_1 (ji10)), (wrap64 (x9_1 + 1)), (by first | rfl | (simp; done) | (simp only [← hji10] <;> (first | rfl | (rw [shl_one_]; done) | simp)) | (simp [*]; done)), ev, H', ⟨oa HK1⟩, ⟨bk BK510⟩, ⟨bw⟩⟩
       ·replace H := ieq H
        rcases H with ⟨c12b0, c12b1, H⟩ | ⟨c12, c12b0, c12b1, H⟩
        ·replace H := ige H
         rcases H with ⟨c13b0, H⟩ | ⟨c13b0, H⟩
         ·have c14b0 := eq_true (of_decide_eq_true as_ : 0 ≤ x9_1)
          obtain ⟨ji15, hji15⟩ : ∃ j_ : Int, (shl .u32 1 x9_1) = j_ := ⟨_, rfl⟩
          first | rw [hji15] at H | simp only [hji15] at H
          have hji15_ : (IntKind.u32.wrap (1 * 2 ^ min x9_1.toNat 32)) = ji15 := hji15
          have hji15z : x9_1 ≤ 32 → (IntKind.u32.wrap (1 * 2 ^ x9_1.toNat)) = ji15 := shl_small hji15
          have hji15u : (IntKind.u32.wrap (2 ^ min x9_1.toNat 32)) = ji15 := by have h_ := hji15_; rw [Int.one_mul] at h_; exact h_
          have hji15v : x9_1 ≤ 32 → (IntKind.u32.wrap (2 ^ x9_1.toNat)) = ji15 := fun hle_ => by have h_ := hji15z hle_; rw [Int.one_mul] at h_; exact h_
          have H' := Aside0.mk H
          clear H
          have p511 : 0 ≤ (x9_1 : Int) := of_decide_eq_true as_
          have q511 : x9_1 < (l0_1.length : Int) := of_decide_eq_true as_
          obtain ⟨ad511, e511, hx511_0⟩ := Kd.at_int HR0_1.out x9_1 p511 q511
          cases e511
          replace hx511_0 := cl HB hx511_0
          replace p511 := eq_true p511
          replace q511 := eq_true q511
          obtain ⟨z16_0, z16_1⟩ := ca2 BK510
          obtain ⟨f16_0, f16_1⟩ := fa2 BK510
          go_wp2
          go_roundg k1
          case measure => have := HK1.out; omega
          case rel => exact ⟨(Go.bits .or .u32 x3_1 (ji15)), (wrap64 (x9_1 + 1)), (by first | rfl | (simp; done) | (simp only [← hji15] <;> (first | rfl | (rw [shl_one_]; done) | simp)) | (simp [*]; done)), ev, H', ⟨oa HK1⟩, ⟨bk BK510⟩, ⟨bw⟩⟩
         ·have H' := Aside0.mk H
          clear H
          have p511 : 0 ≤ (x9_1 : Int) := of_decide_eq_true as_
          have q511 : x9_1 < (l0_1.length : Int) := of_decide_eq_true as_
          obtain ⟨ad511, e511, hx511_0⟩ := Kd.at_int HR0_1.out x9_1 p511 q511
          cases e511
          replace hx511_0 := cl HB hx511_0
          replace p511 := eq_true p511
          replace q511 := eq_true q511
          obtain ⟨z17_0, z17_1⟩ := ca2 BK510
          obtain ⟨f17_0, f17_1⟩ := fa2 BK510
          go_wp2
          go_roundg k1
          case measure => have := HK1.out; omega
          case rel => exact ⟨(x3_1), (wrap64 (x9_1 + 1)), ev, ev, H', ⟨oa HK1⟩, ⟨bk BK510⟩, ⟨bw⟩⟩
        ·have H' := Aside0.mk H
         clear H
         have p511 : 0 ≤ (x9_1 : Int) := of_decide_eq_true as_
         have q511 : x9_1 < (l0_1.length : Int) := of_decide_eq_true as_
         obtain ⟨ad511, e511, hx511_0⟩ := Kd.at_int HR0_1.out x9_1 p511 q511
         cases e511
         replace hx511_0 := cl HB hx511_0
         replace p511 := eq_true p511
         replace q511 := eq_true q511
         obtain ⟨z18_0, z18_1⟩ := ca2 BK510
         obtain ⟨f18_0, f18_1⟩ := fa2 BK510
         go_wp2
         go_roundg k1
         case measure => have := HK1.out; omega
         case rel => exact ⟨(x3_1), (wrap64 (x9_1 + 1)), ev, ev, H', ⟨oa HK1⟩, ⟨bk BK510⟩, ⟨bw⟩⟩
      ·replace H := ieq H
       rcases H with ⟨c19b0, c19b1, H⟩ | ⟨c19, c19b0, c19b1, H⟩
       ·replace H := ige H
        rcases H with ⟨c20b0, H⟩ | ⟨c20b0, H⟩
        ·have c21b0 := eq_true (of_decide_eq_true as_ : 0 ≤ x9_1)
         obtain ⟨ji22, hji22⟩ : ∃ j_ : Int, (shl .u32 1 x9_1) = j_ := ⟨_, rfl⟩
         first | rw [hji22] at H | simp only [hji22] at H
         have hji22_ : (IntKind.u32.wrap (1 * 2 ^ min x9_1.toNat 32)) = ji22 := hji22
         have hji22z : x9_1 ≤ 32 → (IntKind.u32.wrap (1 * 2 ^ x9_1.toNat)) = ji22 := shl_small hji22
         have hji22u : (IntKind.u32.wrap (2 ^ min x9_1.toNat 32)) = ji22 := by have h_ := hji22_; rw [Int.one_mul] at h_; exact h_
         have hji22v : x9_1 ≤ 32 → (IntKind.u32.wrap (2 ^ x9_1.toNat)) = ji22 := fun hle_ => by have h_ := hji22z hle_; rw [Int.one_mul] at h_; exact h_
         have H' := Aside0.mk H
         clear H
         have p511 : 0 ≤ (x9_1 : Int) := of_decide_eq_true as_
         have q511 : x9_1 < (l0_1.length : Int) := of_decide_eq_true as_
         obtain ⟨ad511, e511, hx511_0⟩ := Kd.at_int HR0_1.out x9_1 p511 q511
         cases e511
         replace hx511_0 := cl HB hx511_0
         replace p511 := eq_true p511
         replace q511 := eq_true q511
         obtain ⟨z23_0, z23_1⟩ := ca2 BK510
         obtain ⟨f23_0, f23_1⟩ := fa2 BK510
         go_wp2
         go_roundg k1
         case measure => have := HK1.out; omega
         case rel => exact ⟨(Go.bits .or .u32 x3_1 (ji22)), (wrap64 (x9_1 + 1)), (by first | rfl | (simp; done) | (simp only [← hji22] <;> (first | rfl | (rw [shl_one_]; done) | simp)) | (simp [*]; done)), ev, H', ⟨oa HK1⟩, ⟨bk BK510⟩, ⟨bw⟩⟩
        ·have H' := Aside0.mk H
         clear H
         have p511 : 0 ≤ (x9_1 : Int) := of_decide_eq_true as_
         have q511 : x9_1 < (l0_1.length : Int) := of_decide_eq_true as_
         obtain ⟨ad511, e511, hx511_0⟩ := Kd.at_int HR0_1.out x9_1 p511 q511
         cases e511
         replace hx511_0 := cl HB hx511_0
         replace p511 := eq_true p511
         replace q511 := eq_true q511
         obtain ⟨z24_0, z24_1⟩ := ca2 BK510
         obtain ⟨f24_0, f24_1⟩ := fa2 BK510
         go_wp2
         go_roundg k1
         case measure => have := HK1.out; omega
         case rel => exact ⟨(x3_1), (wrap64 (x9_1 + 1)), ev, ev, H', ⟨oa HK1⟩, ⟨bk BK510⟩, ⟨bw⟩⟩
       ·have H' := Aside0.mk H
        clear H
        have p511 : 0 ≤ (x9_1 : Int) := of_decide_eq_true as_
        have q511 : x9_1 < (l0_1.length : Int) := of_decide_eq_true as_
        obtain ⟨ad511, e511, hx511_0⟩ := Kd.at_int HR0_1.out x9_1 p511 q511
        cases e511
        replace hx511_0 := cl HB hx511_0
        replace p511 := eq_true p511
        replace q511 := eq_true q511
        obtain ⟨z25_0, z25_1⟩ := ca2 BK510
        obtain ⟨f25_0, f25_1⟩ := fa2 BK510
        go_wp2
        go_roundg k1
        case measure => have := HK1.out; omega
        case rel => exact ⟨(x3_1), (wrap64 (x9_1 + 1)), ev, ev, H', ⟨oa HK1⟩, ⟨bk BK510⟩, ⟨bw⟩⟩
     ·rw [if_neg c6] at H
      exact absurd H (by simp)
    ·rw [if_neg c5] at H
     exact absurd H (by simp)
   ·obtain rfl := Option.some.inj H
    go_wp2
    go_ret
    exact ⟨rt, bw⟩

end Go.Proofs.YtobboonnfocalaaGreatDoor.PG1
namespace Go.Proofs.YtobboonnfocalaaGreatDoor.PG1
open Go.RowKit Go.Proofs.YtobboonnfocalaaGreatDoorW.PrintWords Go.Proofs.YtobboonnfocalaaGreatDoorW.PrintLast Go.Proofs.YtobboonnfocalaaGreatDoorW.PrintMore Go.Proofs.YtobboonnfocalaaGreatDoor.T
attribute [local go_sem] max2_int min2_int max_two min_two max_three min_three max_four min_four   -- for this text's walks alone
set_option linter.unusedVariables false
set_option linter.unusedSimpArgs false

/-! ### impl_startsBlock: function 103 -/
def impl_startsBlock.f (a0_0 : Int) (a0_1 : Int) (a0_2 : Int) (a0_3 : Int) (a1 : Int) : Option (Bool) := if a0_0 = 1 then ((impl_within.f a1 0 15).bind fun t516 => (if t516 = true then (if 0 ≤ a0_1 then (if (shl .i64 (shr .i64 a1 a0_1) a0_1) = a1 then (if 0 ≤ (shr .i64 a1 a0_1) then (some ((Go.bits .and .u32 (shr .u32 a0_2 (shr .i64 a1 a0_1)) 1) == 1)) else (none)) else (some false)) else (none)) else (some false))) else (some false)
def impl_startsBlock.T1 : Bool × List (List Nat × List Nat) := (true, [([], []), ([0], [0]), ([1], [1]), ([2], [2]), ([3], [3]), ([4, 3, 3], [3, 4]), ([3, 5], [3, 5]), ([6, 5], [6]), ([7], [7]), ([7], [7]), ([9, 7], [7, 9]), ([8, 10, 7], [7, 8, 10]), ([7], [7]), ([12, 7], [7, 12]), ([11, 13, 7], [7, 11, 13]), ([7], [7]), ([14, 15, 7], [7, 14, 15]), ([7, 16], [7, 16]), ([17, 7], [17]), ([18], [18]), ([19, 18], [18, 19]), ([18], [18]), ([18], [18]), ([22, 18], [18, 22]), ([21, 23, 18], [18, 21, 23]), ([20, 24, 18], [18, 20, 24]), ([25, 18], [18, 25]), ([26, 18], [18, 26]), ([18, 27], [18, 27]), ([28, 18, 0, 1, 2, 3, 4, 5, 6, 7, 8, 9, 10, 11, 12, 13, 14, 15, 16, 17, 18, 19, 20, 21, 22, 23, 24, 25, 26, 27, 28], [28])])
def impl_startsBlock.B1 : List Nat := [0, 1, 3, 7, 15, 31, 63, 127, 255, 255, 767, 2047, 255, 4351, 16383, 255, 65535, 131071, 262143, 524287, 1048575, 524287, 524287, 4718591, 15204351, 33554431, 67108863, 134217727, 268435455, 536870911]
theorem impl_startsBlock.tab1 : rtab .any (opsOf Tryz.f103 1) = impl_startsBlock.T1 := kr
theorem impl_startsBlock.bits1 : waitsOk impl_startsBlock.T1.2 impl_startsBlock.B1 = true := kr
set_option maxHeartbeats 2000000 in
set_option maxRecDepth 100000 in
theorem impl_startsBlock.calls (a0_0 : Int) (a0_1 : Int) (a0_2 : Int) (a0_3 : Int) (a1 : Int) (r : Bool) (w : World) (h : impl_startsBlock.f a0_0 a0_1 a0_2 a0_3 a1 = some r) :
  Calls Tryz.prog 103 #[.agg #[.int .i64 a0_0, .int .i64 a0_1, .int .u32 a0_2, .int .i64 a0_3], .int .i64 a1] w fun e w' => e = .returned (.bool r) ∧ Below w.heap.size w w' := by
 have hu75 := Tryz.underlying75
 have HB := Aside0.mk (Below.refl w.heap.size w)
 unfold impl_startsBlock.f at h
 have H := h
 clear h
 replace H := ieq H
 rcases H with ⟨c3b0, c3b1, H⟩ | ⟨c3, c3b0, c3b1, H⟩
 ·replace H := bn H
  obtain ⟨t516, A4, H⟩ := H
  try dsimp only at H
  replace H := ib H
  rcases H with ⟨rfl, H⟩ | ⟨rfl, H⟩
  ·by_cases c6 : 0 ≤ a0_1
   ·rw [if_pos c6] at H
    have c6b0 := eq_true c6
    have c6b1 : decide (0 ≤ a0_1) = true := decide_eq_true c6
    clear c6
    obtain ⟨ji7, hji7⟩ : ∃ j_ : Int, (shr .i64 a1 a0_1) = j_ := ⟨_, rfl⟩
    first | rw [hji7] at H | simp only [hji7] at H
    (try rw [hji7] at A4)
    have hji7_ : (a1 / 2 ^ min a0_1.toNat 64) = ji7 := hji7
    have hji7z : a0_1 ≤ 64 → (a1 / 2 ^ a0_1.toNat) = ji7 := shr_small hji7
    have c8b0 := eq_true (of_decide_eq_true as_ : 0 ≤ a0_1)
    obtain ⟨ji9, hji9⟩ : ∃ j_ : Int, (shl .i64 (ji7) a0_1) = j_ := ⟨_, rfl⟩
    first | rw [hji9] at H | simp only [hji9] at H
    (try rw [hji9] at A4)
    have hji9_ : (IntKind.i64.wrap ((ji7) * 2 ^ min a0_1.toNat 64)) = ji9 := hji9
    have hji9z : a0_1 ≤ 64 → (IntKind.i64.wrap ((ji7) * 2 ^ a0_1.toNat)) = ji9 := shl_small hji9
    have hji9y : (wrap64 ((ji7) * 2 ^ min a0_1.toNat 64)) = ji9 := (i64_w _).symm.trans hji9_
    have hji9x : a0_1 ≤ 64 → (wrap64 ((ji7) * 2 ^ a0_1.toNat)) = ji9 := fun h_ => (i64_w _).symm.trans (hji9z h_)
    replace H := ieq H
    rcases H with ⟨c10b0, c10b1, H⟩ | ⟨c10, c10b0, c10b1, H⟩
    ·have c11b0 := eq_true (of_decide_eq_true as_ : 0 ≤ a0_1)
     by_cases c12 : 0 ≤ (ji7)
     ·rw [if_pos c12] at H
      have c12b0 := eq_true c12
      have c12b1 : decide (0 ≤ (ji7)) = true := decide_eq_true c12
      clear c12
      obtain ⟨ji13, hji13⟩ : ∃ j_ : Int, (shr .u32 a0_2 (ji7)) = j_ := ⟨_, rfl⟩
      first | rw [hji13] at H | simp only [hji13] at H
      (try rw [hji13] at A4)
      have hji13_ : (a0_2 / 2 ^ min (ji7).toNat 32) = ji13 := hji13
      have hji13z : (ji7) ≤ 32 → (a0_2 / 2 ^ (ji7).toNat) = ji13 := shr_small hji13
      obtain rfl := Option.some.inj H
      go_enter Tryz.func103, Tryz.ntmps103
      try go_wp2_with (first | ((with_reducible refine gd 2 ?_); refine bx 2 75 #[.int .i64 a0_0, .int .i64 a0_1, .int .u32 a0_2, .int .i64 a0_3] ?_; clear HB; intro gb515 w14 hg BK515 hb GE515 HB; clear hb hg))
      replace BK515 := bd BK515
      replace HB := hd HB
      refine st 30 (fun w' => CA w' gb515 0 [.int .i64 a0_0, .int .i64 a0_1, .int .u32 a0_2, .int .i64 a0_3]) [] (cx BK515) impl_startsBlock.tab1 impl_startsBlock.bits1 ?_; intro hHeld HT_ HW_
      generalize w14.drew = w15 at BK515 HB hHeld ⊢
      refine pu 0 5 (bl 30 1) ?_
      refine tk 1 6 (bl 30 3) ?_
      refine pu 2 7 (bl 30 7) ?_
      refine pu 3 8 (bl 30 15) ?_
      refine pu 4 9 (bl 30 31) ?_
      refine on_ 5 (some 10) (bl 30 63) (fun K hK => ?_)
      refine gq Tryz.func21 (impl_within.calls _ _ _ _ _ A4.out) ?_
      rintro e w' ⟨rfl, ⟨nd, rfl⟩⟩
      refine ⟨_, rfl, ?_⟩
      refine hK.out _ _ (cx BK515) (fun hHeld => ?_)
      clear hK K
      refine nm ?_
      refine pu 6 11 (bl 30 127) ?_
      refine pu 7 12 (bl 30 255) ?_
      refine pu 8 13 (bl 30 511) ?_
      refine pu 9 14 (bl 30 1023) ?_
      refine pu 12 17 (bl 30 5119) ?_
      refine pu 15 20 (bl 30 37887) ?_
      refine tk 10 15 (bl 30 38911) ?_
      refine pu 11 16 (bl 30 40959) ?_
      refine tk 13 18 (bl 30 49151) ?_
      refine pu 14 19 (bl 30 65535) ?_
      refine pu 16 21 (bl 30 131071) ?_
      refine pu 17 22 (bl 30 262143) ?_
      refine pu 18 23 (bl 30 524287) ?_
      refine pu 19 24 (bl 30 1048575) ?_
      refine pu 21 26 (bl 30 3145727) ?_
      refine pu 22 27 (bl 30 7340031) ?_
      refine tk 20 25 (bl 30 8388607) ?_
      refine tk 23 28 (bl 30 16777215) ?_
      refine pu 24 29 (bl 30 33554431) ?_
      refine pu 25 30 (bl 30 67108863) ?_
      refine pu 26 31 (bl 30 134217727) ?_
      refine pu 27 32 (bl 30 268435455) ?_
      refine pu 28 33 (bl 30 536870911) ?_
      refine pu 29 4 (bl 30 1073741823) ?_
      refine dn ?_ _
      try go_wp2
      go_ret
      exact ⟨by first | exact rt1 | (simp only [← hji7, ← hji9, ← hji13]; exact rt1) | exact rt, bw⟩
     ·rw [if_neg c12] at H
      exact absurd H (by simp)
    ·obtain rfl := Option.some.inj H
     go_enter Tryz.func103, Tryz.ntmps103
     try go_wp2_with (first | ((with_reducible refine gd 2 ?_); refine bx 2 75 #[.int .i64 a0_0, .int .i64 a0_1, .int .u32 a0_2, .int .i64 a0_3] ?_; clear HB; intro gb515 w16 hg BK515 hb GE515 HB; clear hb hg))
     replace BK515 := bd BK515
     replace HB := hd HB
     refine st 30 (fun w' => CA w' gb515 0 [.int .i64 a0_0, .int .i64 a0_1, .int .u32 a0_2, .int .i64 a0_3]) [] (cx BK515) impl_startsBlock.tab1 impl_startsBlock.bits1 ?_; intro hHeld HT_ HW_
     generalize w16.drew = w17 at BK515 HB hHeld ⊢
     refine pu 0 5 (bl 30 1) ?_
     refine tk 1 6 (bl 30 3) ?_
     refine pu 2 7 (bl 30 7) ?_
     refine pu 3 8 (bl 30 15) ?_
     refine pu 4 9 (bl 30 31) ?_
     refine on_ 5 (some 10) (bl 30 63) (fun K hK => ?_)
     refine gq Tryz.func21 (impl_within.calls _ _ _ _ _ A4.out) ?_
     rintro e w' ⟨rfl, ⟨nd, rfl⟩⟩
     refine ⟨_, rfl, ?_⟩
     refine hK.out _ _ (cx BK515) (fun hHeld => ?_)
     clear hK K
     refine nm ?_
     refine pu 6 11 (bl 30 127) ?_
     refine pu 7 12 (bl 30 255) ?_
     refine pu 8 13 (bl 30 511) ?_
     refine pu 9 14 (bl 30 1023) ?_
     refine pu 12 17 (bl 30 5119) ?_
     refine pu 15 20 (bl 30 37887) ?_
     refine tk 10 15 (bl 30 38911) ?_
     refine pu 11 16 (bl 30 40959) ?_
     refine tk 13 18 (bl 30 49151) ?_
     refine pu 14 19 (bl 30 65535) ?_
     refine pu 16 21 (bl 30 131071) ?_
     refine pu 17 22 (bl 30 262143) ?_
     refine pu 18 23 (bl 30 524287) ?_
     refine pf 19 24 (bl 30 1048575) ?_
     refine pf 20 25 (bl 30 2097151) ?_
     refine pf 21 26 (bl 30 4194303) ?_
     refine pf 22 27 (bl 30 8388607) ?_
     refine pf 23 28 (bl 30 16777215) ?_
     refine pf 24 29 (bl 30 33554431) ?_
     refine pf 25 30 (bl 30 67108863) ?_
     refine pf 26 31 (bl 30 134217727) ?_
     refine pf 27 32 (bl 30 268435455) ?_
     refine pu 28 33 (bl 30 536870911) ?_
     refine pu 29 4 (bl 30 1073741823) ?_
     refine dn ?_ _
     try go_wp2
     go_ret
     exact ⟨by first | exact rt1 | (simp only [← hji7, ← hji9]; exact rt1) | exact rt, bw⟩
   ·rw [if_neg c6] at H
    exact absurd H (by simp)
  ·obtain rfl := Option.some.inj H
   go_enter Tryz.func103, Tryz.ntmps103
   try go_wp2_with (first | ((with_reducible refine gd 2 ?_); refine bx 2 75 #[.int .i64 a0_0, .int .i64 a0_1, .int .u32 a0_2, .int .i64 a0_3] ?_; clear HB; intro gb515 w18 hg BK515 hb GE515 HB; clear hb hg))
   replace BK515 := bd BK515
   replace HB := hd HB
   refine st 30 (fun w' => CA w' gb515 0 [.int .i64 a0_0, .int .i64 a0_1, .int .u32 a0_2, .int .i64 a0_3]) [] (cx BK515) impl_startsBlock.tab1 impl_startsBlock.bits1 ?_; intro hHeld HT_ HW_
   generalize w18.drew = w19 at BK515 HB hHeld ⊢
   refine pu 0 5 (bl 30 1) ?_
   refine tk 1 6 (bl 30 3) ?_
   refine pu 2 7 (bl 30 7) ?_
   refine pu 3 8 (bl 30 15) ?_
   refine pu 4 9 (bl 30 31) ?_
   refine on_ 5 (some 10) (bl 30 63) (fun K hK => ?_)
   refine gq Tryz.func21 (impl_within.calls _ _ _ _ _ A4.out) ?_
   rintro e w' ⟨rfl, ⟨nd, rfl⟩⟩
   refine ⟨_, rfl, ?_⟩
   refine hK.out _ _ (cx BK515) (fun hHeld => ?_)
   clear hK K
   refine nm ?_
   refine pu 6 11 (bl 30 127) ?_
   refine pu 7 12 (bl 30 255) ?_
   refine pf 8 13 (bl 30 511) ?_
   refine pf 9 14 (bl 30 1023) ?_
   refine pf 10 15 (bl 30 2047) ?_
   refine pf 11 16 (bl 30 4095) ?_
   refine pf 12 17 (bl 30 8191) ?_
   refine pf 13 18 (bl 30 16383) ?_
   refine pf 14 19 (bl 30 32767) ?_
   refine pf 15 20 (bl 30 65535) ?_
   refine pf 16 21 (bl 30 131071) ?_
   refine pu 17 22 (bl 30 262143) ?_
   refine pu 18 23 (bl 30 524287) ?_
   refine pf 19 24 (bl 30 1048575) ?_
   refine pf 20 25 (bl 30 2097151) ?_
   refine pf 21 26 (bl 30 4194303) ?_
   refine pf 22 27 (bl 30 8388607) ?_
   refine pf 23 28 (bl 30 16777215) ?_
   refine pf 24 29 (bl 30 33554431) ?_
   refine pf 25 30 (bl 30 67108863) ?_
   refine pf 26 31 (bl 30 134217727) ?_
   refine pf 27 32 (bl 30 268435455) ?_
   refine pu 28 33 (bl 30 536870911) ?_
   refine pu 29 4 (bl 30 1073741823) ?_
   refine dn ?_ _
   try go_wp2
   go_ret
   exact ⟨rt, bw⟩
 ·obtain rfl := Option.some.inj H
  go_enter Tryz.func103, Tryz.ntmps103
  try go_wp2_with (first | ((with_reducible refine gd 2 ?_); refine bx 2 75 #[.int .i64 a0_0, .int .i64 a0_1, .int .u32 a0_2, .int .i64 a0_3] ?_; clear HB; intro gb515 w20 hg BK515 hb GE515 HB; clear hb hg))
  replace BK515 := bd BK515
  replace HB := hd HB
  refine st 30 (fun w' => CA w' gb515 0 [.int .i64 a0_0, .int .i64 a0_1, .int .u32 a0_2, .int .i64 a0_3]) [] (cx BK515) impl_startsBlock.tab1 impl_startsBlock.bits1 ?_; intro hHeld HT_ HW_
  generalize w20.drew = w21 at BK515 HB hHeld ⊢
  refine pu 0 5 (bl 30 1) ?_
  refine tk 1 6 (bl 30 3) ?_
  refine pu 2 7 (bl 30 7) ?_
  refine pu 3 8 (bl 30 15) ?_
  refine pf 4 9 (bl 30 31) ?_
  refine pf 5 10 (bl 30 63) ?_
  refine pu 6 11 (bl 30 127) ?_
  refine pu 7 12 (bl 30 255) ?_
  refine pf 8 13 (bl 30 511) ?_
  refine pf 9 14 (bl 30 1023) ?_
  refine pf 10 15 (bl 30 2047) ?_
  refine pf 11 16 (bl 30 4095) ?_
  refine pf 12 17 (bl 30 8191) ?_
  refine pf 13 18 (bl 30 16383) ?_
  refine pf 14 19 (bl 30 32767) ?_
  refine pf 15 20 (bl 30 65535) ?_
  refine pf 16 21 (bl 30 131071) ?_
  refine pu 17 22 (bl 30 262143) ?_
  refine pu 18 23 (bl 30 524287) ?_
  refine pf 19 24 (bl 30 1048575) ?_
  refine pf 20 25 (bl 30 2097151) ?_
  refine pf 21 26 (bl 30 4194303) ?_
  refine pf 22 27 (bl 30 8388607) ?_
  refine pf 23 28 (bl 30 16777215) ?_
  refine pf 24 29 (bl 30 33554431) ?_
  refine pf 25 30 (bl 30 67108863) ?_
  refine pf 26 31 (bl 30 134217727) ?_
  refine pf 27 32 (bl 30 268435455) ?_
  refine pu 28 33 (bl 30 536870911) ?_
  refine pu 29 4 (bl 30 1073741823) ?_
  refine dn ?_ _
  try go_wp2
  go_ret
  exact ⟨rt, bw⟩

end Go.Proofs.YtobboonnfocalaaGreatDoor.PG1
namespace Go.Proofs.YtobboonnfocalaaGreatDoor.PG1
open Go.RowKit Go.Proofs.YtobboonnfocalaaGreatDoorW.PrintWords Go.Proofs.YtobboonnfocalaaGreatDoorW.PrintLast Go.Proofs.YtobboonnfocalaaGreatDoorW.PrintMore Go.Proofs.YtobboonnfocalaaGreatDoor.T
attribute [local go_sem] max2_int min2_int max_two min_two max_three min_three max_four min_four   -- for this text's walks alone
set_option linter.unusedVariables false
set_option linter.unusedSimpArgs false

/-! ### impl_mayGive: function 93 -/
def impl_mayGive.f (k : Nat) (a0 : Int) (a1 : Int) : Option (Bool) := (impl_CtlRead.f k a0).bind fun bt517 => (if bt517.2.2.2.2 = true then ((impl_startsBlock.f bt517.1 bt517.2.1 bt517.2.2.1 bt517.2.2.2.1 a1).bind fun t523 => (if t523 = true then (some true) else (if bt517.1 = 2 then (some (a1 == 0)) else (some false)))) else (some false))
theorem impl_mayGive.mono : ∀ a0 a1 k, LeO (impl_mayGive.f k a0 a1) (impl_mayGive.f (k + 1) a0 a1) := by
 intro a0 a1 k
 unfold impl_mayGive.f
 repeat' first
  | (with_reducible first | exact impl_CtlRead.mono .. | exact LeO.refl _ | exact LeO.none _ | refine LeO.ite ?_ ?_ | refine LeO.bind ?_ (fun _ => ?_))
  | exact LeO.none _ | refine LeO.ite ?_ ?_ | refine LeO.bind ?_ (fun _ => ?_)
set_option maxHeartbeats 8000000 in
set_option maxRecDepth 100000 in
theorem impl_mayGive.calls (k : Nat) (a0 : Int) (a1 : Int) (r : Bool) (w : World) (h : impl_mayGive.f k a0 a1 = some r) :
  Calls Tryz.prog 93 #[.int .u32 a0, .int .i64 a1] w fun e w' => e = .returned (.bool r) ∧ Below w.heap.size w w' := by
 have hu75 := Tryz.underlying75
 have HB := Aside0.mk (Below.refl w.heap.size w)
 unfold impl_mayGive.f at h
 have H := h
 clear h
 replace H := bn H
 obtain ⟨⟨t517, t518, t519, t520, t521⟩, A3, H⟩ := H
 try dsimp only at H
 replace H := ib H
 rcases H with ⟨rfl, H⟩ | ⟨rfl, H⟩
 ·replace H := bn H
  obtain ⟨t523, A5, H⟩ := H
  try dsimp only at H
  replace H := ib H
  rcases H with ⟨rfl, H⟩ | ⟨rfl, H⟩
  ·obtain rfl := Option.some.inj H
   go_enter Tryz.func93, Tryz.ntmps93
   go_wp2_with (first | ((with_reducible refine gf 47 ?_); refine gc Tryz.func47 (some 9) (impl_CtlRead.calls _ _ _ _ _ _ _ _ A3.out) ?_; rintro e w7 ⟨rfl, hb⟩; refine ⟨_, rfl, ?_⟩; replace HB := hs hb; try clear hb) | ((with_reducible refine gd 5 ?_); refine bx 5 75 #[.int .i64 0, .int .i64 0, .int .u32 0, .int .i64 0] ?_; clear HB; intro gb522 w8 hg BK522 hb GE522 HB; clear hb hg; obtain ⟨z9_0, z9_1, z9_2, z9_3⟩ := ca4 BK522; obtain ⟨f9_0, f9_1, f9_2, f9_3⟩ := fa4 BK522) | (go_at_call 103; (with_reducible refine (impl_startsBlock.calls _ _ _ _ _ _ _ A5.out).mono ?_); rintro e w10 ⟨rfl, hb⟩; replace BK522 := bq BK522 #[.int .i64 t517, .int .i64 t518, .int .u32 t519, .int .i64 t520] hb; replace HB := hs hb; try clear hb))
   go_ret
   exact ⟨rt, bw⟩
  ·replace H := ieq H
   rcases H with ⟨c11b0, c11b1, H⟩ | ⟨c11, c11b0, c11b1, H⟩
   ·obtain rfl := Option.some.inj H
    go_enter Tryz.func93, Tryz.ntmps93
    go_wp2_with (first | ((with_reducible refine gf 47 ?_); refine gc Tryz.func47 (some 9) (impl_CtlRead.calls _ _ _ _ _ _ _ _ A3.out) ?_; rintro e w12 ⟨rfl, hb⟩; refine ⟨_, rfl, ?_⟩; replace HB := hs hb; try clear hb) | ((with_reducible refine gd 5 ?_); refine bx 5 75 #[.int .i64 0, .int .i64 0, .int .u32 0, .int .i64 0] ?_; clear HB; intro gb522 w13 hg BK522 hb GE522 HB; clear hb hg; obtain ⟨z14_0, z14_1, z14_2, z14_3⟩ := ca4 BK522; obtain ⟨f14_0, f14_1, f14_2, f14_3⟩ := fa4 BK522) | (go_at_call 103; (with_reducible refine (impl_startsBlock.calls _ _ _ _ _ _ _ A5.out).mono ?_); rintro e w15 ⟨rfl, hb⟩; replace BK522 := bq BK522 #[.int .i64 t517, .int .i64 t518, .int .u32 t519, .int .i64 t520] hb; replace HB := hs hb; try clear hb; obtain ⟨z16_0, z16_1, z16_2, z16_3⟩ := ca4 BK522; obtain ⟨f16_0, f16_1, f16_2, f16_3⟩ := fa4 BK522))
    go_ret
    exact ⟨rt, bw⟩
   ·obtain rfl := Option.some.inj H
    go_enter Tryz.func93, Tryz.ntmps93
    go_wp2_with (first | ((with_reducible refine gf 47 ?_); refine gc Tryz.func47 (some 9) (impl_CtlRead.calls _ _ _ _ _ _ _ _ A3.out) ?_; rintro e w17 ⟨rfl, hb⟩; refine ⟨_, rfl, ?_⟩; replace HB := hs hb; try clear hb) | ((with_reducible refine gd 5 ?_); refine bx 5 75 #[.int .i64 0, .int .i64 0, .int .u32 0, .int .i64 0] ?_; clear HB; intro gb522 w18 hg BK522 hb GE522 HB; clear hb hg; obtain ⟨z19_0, z19_1, z19_2, z19_3⟩ := ca4 BK522; obtain ⟨f19_0, f19_1, f19_2, f19_3⟩ := fa4 BK522) | (go_at_call 103; (with_reducible refine (impl_startsBlock.calls _ _ _ _ _ _ _ A5.out).mono ?_); rintro e w20 ⟨rfl, hb⟩; replace BK522 := bq BK522 #[.int .i64 t517, .int .i64 t518, .int .u32 t519, .int .i64 t520] hb; replace HB := hs hb; try clear hb; obtain ⟨z21_0, z21_1, z21_2, z21_3⟩ := ca4 BK522; obtain ⟨f21_0, f21_1, f21_2, f21_3⟩ := fa4 BK522))
    go_ret
    exact ⟨rt, bw⟩
 ·obtain rfl := Option.some.inj H
  go_enter Tryz.func93, Tryz.ntmps93
  go_wp2_with (first | ((with_reducible refine gf 47 ?_); refine gc Tryz.func47 (some 9) (impl_CtlRead.calls _ _ _ _ _ _ _ _ A3.out) ?_; rintro e w22 ⟨rfl, hb⟩; refine ⟨_, rfl, ?_⟩; replace HB := hs hb; try clear hb) | ((with_reducible refine gd 5 ?_); refine bx 5 75 #[.int .i64 0, .int .i64 0, .int .u32 0, .int .i64 0] ?_; clear HB; intro gb522 w23 hg BK522 hb GE522 HB; clear hb hg; obtain ⟨z24_0, z24_1, z24_2, z24_3⟩ := ca4 BK522; obtain ⟨f24_0, f24_1, f24_2, f24_3⟩ := fa4 BK522))
  go_ret
  exact ⟨rt, bw⟩

/-! ### bits_OnesCount32: function 111 -/
def bits_OnesCount32.f (a0 : Int) : Option (Int) := if 0 ≤ (a0 / 16777216) then (if (a0 / 16777216) < 256 then (if 0 ≤ (Go.bits .and .u32 (a0 / 65536) 255) then (if (Go.bits .and .u32 (a0 / 65536) 255) < 256 then (if 0 ≤ (Go.bits .and .u32 (a0 / 256) 255) then (if (Go.bits .and .u32 (a0 / 256) 255) < 256 then (if 0 ≤ (Go.bits .and .u32 a0 255) then (if (Go.bits .and .u32 a0 255) < 256 then (some (((((((bt (⟨#[0, 1, 1, 2, 1, 2, 2, 3, 1, 2, 2, 3, 2, 3, 3, 4, 1, 2, 2, 3, 2, 3, 3, 4, 2, 3, 3, 4, 3, 4, 4, 5, 1, 2, 2, 3, 2, 3, 3, 4, 2, 3, 3, 4, 3, 4, 4, 5, 2, 3, 3, 4, 3, 4, 4, 5, 3, 4, 4, 5, 4, 5, 5, 6, 1, 2, 2, 3, 2, 3, 3, 4, 2, 3, 3, 4, 3, 4, 4, 5, 2, 3, 3, 4, 3, 4, 4, 5, 3, 4, 4, 5, 4, 5, 5, 6, 2, 3, 3, 4, 3, 4, 4, 5, 3, 4, 4, 5, 4, 5, 5, 6, 3, 4, 4, 5, 4, 5, 5, 6, 4, 5, 5, 6, 5, 6, 6, 7, 1, 2, 2, 3, 2, 3, 3, 4, 2, 3, 3, 4, 3, 4, 4, 5, 2, 3, 3, 4, 3, 4, 4, 5, 3, 4, 4, 5, 4, 5, 5, 6, 2, 3, 3, 4, 3, 4, 4, 5, 3, 4, 4, 5, 4, 5, 5, 6, 3, 4, 4, 5, 4, 5, 5, 6, 4, 5, 5, 6, 5, 6, 6, 7, 2, 3, 3, 4, 3, 4, 4, 5, 3, 4, 4, 5, 4, 5, 5, 6, 3, 4, 4, 5, 4, 5, 5, 6, 4, 5, 5, 6, 5, 6, 6, 7, 3, 4, 4, 5, 4, 5, 5, 6, 4, 5, 5, 6, 5, 6, 6, 7, 4, 5, 5, 6, 5, 6, 6, 7, 5, 6, 6, 7, 6, 7, 7, 8]⟩ : ByteArray) (a0 / 16777216)) + (bt (⟨#[0, 1, 1, 2, 1, 2, 2, 3, 1, 2, 2, 3, 2, 3, 3, 4, 1, 2, 2, 3, 2, 3, 3, 4, 2, 3, 3, 4, 3, 4, 4, 5, 1, 2, 2, 3, 2, 3, 3, 4, 2, 3, 3, 4, 3, 4, 4, 5, 2, 3, 3, 4, 3, 4, 4, 5, 3, 4, 4, 5, 4, 5, 5, 6, 1, 2, 2, 3, 2, 3, 3, 4, 2, 3, 3, 4, 3, 4, 4, 5, 2, 3, 3, 4, 3, 4, 4, 5, 3, 4, 4, 5, 4, 5, 5, 6, 2, 3, 3, 4, 3, 4, 4, 5, 3, 4, 4, 5, 4, 5, 5, 6, 3, 4, 4, 5, 4, 5, 5, 6, 4, 5, 5, 6, 5, 6, 6, 7, 1, 2, 2, 3, 2, 3, 3, 4, 2, 3, 3, 4, 3, 4, 4, 5, 2, 3, 3, 4, 3, 4, 4, 5, 3, 4, 4, 5, 4, 5, 5, 6, 2, 3, 3, 4, 3, 4, 4, 5, 3, 4, 4, 5, 4, 5, 5, 6, 3, 4, 4, 5, 4, 5, 5, 6, 4, 5, 5, 6, 5, 6, 6, 7, 2, 3, 3, 4, 3, 4, 4, 5, 3, 4, 4, 5, 4, 5, 5, 6, 3, 4, 4, 5, 4, 5, 5, 6, 4, 5, 5, 6, 5, 6, 6, 7, 3, 4, 4, 5, 4, 5, 5, 6, 4, 5, 5, 6, 5, 6, 6, 7, 4, 5, 5, 6, 5, 6, 6, 7, 5, 6, 6, 7, 6, 7, 7, 8]⟩ : ByteArray) (Go.bits .and .u32 (a0 / 65536) 255))) % 256) + (bt (⟨#[0, 1, 1, 2, 1, 2, 2, 3, 1, 2, 2, 3, 2, 3, 3, 4, 1, 2, 2, 3, 2, 3, 3, 4, 2, 3, 3, 4, 3, 4, 4, 5, 1, 2, 2, 3, 2, 3, 3, 4, 2, 3, 3, 4, 3, 4, 4, 5, 2, 3, 3, 4, 3, 4, 4, 5, 3, 4, 4, 5, 4, 5, 5, 6, 1, 2, 2, 3, 2, 3, 3, 4, 2, 3, 3, 4, 3, 4, 4, 5, 2, 3, 3, 4, 3, 4, 4, 5, 3, 4, 4, 5, 4, 5, 5, 6, 2, 3, 3, 4, 3, 4, 4, 5, 3, 4, 4, 5, 4, 5, 5, 6, 3, 4, 4, 5, 4, 5, 5, 6, 4, 5, 5, 6, 5, 6, 6, 7, 1, 2, 2, 3, 2, 3, 3, 4, 2, 3, 3, 4, 3, 4, 4, 5, 2, 3, 3, 4, 3, 4, 4, 5, 3, 4, 4, 5, 4, 5, 5, 6, 2, 3, 3, 4, 3, 4, 4, 5, 3, 4, 4, 5, 4, 5, 5, 6, 3, 4, 4, 5, 4, 5, 5, 6, 4, 5, 5, 6, 5, 6, 6, 7, 2, 3, 3, 4, 3, 4, 4, 5, 3, 4, 4, 5, 4, 5, 5, 6, 3, 4, 4, 5, 4, 5, 5, 6, 4, 5, 5, 6, 5, 6, 6, 7, 3, 4, 4, 5, 4, 5, 5, 6, 4, 5, 5, 6, 5, 6, 6, 7, 4, 5, 5, 6, 5, 6, 6, 7, 5, 6, 6, 7, 6, 7, 7, 8]⟩ : ByteArray) (Go.bits .and .u32 (a0 / 256) 255))) % 256) + (bt (⟨#[0, 1, 1, 2, 1, 2, 2, 3, 1, 2, 2, 3, 2, 3, 3, 4, 1, 2, 2, 3, 2, 3, 3, 4, 2, 3, 3, 4, 3, 4, 4, 5, 1, 2, 2, 3, 2, 3, 3, 4, 2, 3, 3, 4, 3, 4, 4, 5, 2, 3, 3, 4, 3, 4, 4, 5, 3, 4, 4, 5, 4, 5, 5, 6, 1, 2, 2, 3, 2, 3, 3, 4, 2, 3, 3, 4, 3, 4, 4, 5, 2, 3, 3, 4, 3, 4, 4, 5, 3, 4, 4, 5, 4, 5, 5, 6, 2, 3, 3, 4, 3, 4, 4, 5, 3, 4, 4, 5, 4, 5, 5, 6, 3, 4, 4, 5, 4, 5, 5, 6, 4, 5, 5, 6, 5, 6, 6, 7, 1, 2, 2, 3, 2, 3, 3, 4, 2, 3, 3, 4, 3, 4, 4, 5, 2, 3, 3, 4, 3, 4, 4, 5, 3, 4, 4, 5, 4, 5, 5, 6, 2, 3, 3, 4, 3, 4, 4, 5, 3, 4, 4, 5, 4, 5, 5, 6, 3, 4, 4, 5, 4, 5, 5, 6, 4, 5, 5, 6, 5, 6, 6, 7, 2, 3, 3, 4, 3, 4, 4, 5, 3, 4, 4, 5, 4, 5, 5, 6, 3, 4, 4, 5, 4, 5, 5, 6, 4, 5, 5, 6, 5, 6, 6, 7, 3, 4, 4, 5, 4, 5, 5, 6, 4, 5, 5, 6, 5, 6, 6, 7, 4, 5, 5, 6, 5, 6, 6, 7, 5, 6, 6, 7, 6, 7, 7, 8]⟩ : ByteArray) (Go.bits .and .u32 a0 255))) % 256)) else (none)) else (none)) else (none)) else (none)) else (none)) else (none)) else (none)) else (none)
set_option maxHeartbeats 8000000 in
set_option maxRecDepth 100000 in
theorem bits_OnesCount32.calls (a0 : Int) (r : Int) (w : World) (h : bits_OnesCount32.f a0 = some r) :
  Calls Tryz.prog 111 #[.int .u32 a0] w fun e w' => e = .returned (.int .i64 r) ∧ Drawn0 w w' := by
 unfold bits_OnesCount32.f at h
 have H := h
 clear h
 obtain ⟨ji2, hji2⟩ : ∃ j_ : Int, (a0 / 16777216) = j_ := ⟨_, rfl⟩
 first | rw [hji2] at H | simp only [hji2] at H
 by_cases c3 : 0 ≤ (ji2)
 ·rw [if_pos c3] at H
  have c3b0 : decide (0 ≤ (ji2)) = true := decide_eq_true c3
  clear c3
  by_cases c4 : (ji2) < 256
  ·rw [if_pos c4] at H
   have c4b0 : decide ((ji2) < 256) = true := decide_eq_true c4
   clear c4
   obtain ⟨ji6, hji6⟩ : ∃ j_ : Int, (Go.bits .and .u32 (a0 / 65536) 255) = j_ := ⟨_, rfl⟩
   first | rw [hji6] at H | simp only [hji6] at H
   by_cases c7 : 0 ≤ (ji6)
   ·rw [if_pos c7] at H
    have c7b0 : decide (0 ≤ (ji6)) = true := decide_eq_true c7
    clear c7
    by_cases c8 : (ji6) < 256
    ·rw [if_pos c8] at H
     have c8b0 : decide ((ji6) < 256) = true := decide_eq_true c8
     clear c8
     obtain ⟨ji10, hji10⟩ : ∃ j_ : Int, (Go.bits .and .u32 (a0 / 256) 255) = j_ := ⟨_, rfl⟩
     first | rw [hji10] at H | simp only [hji10] at H
     by_cases c11 : 0 ≤ (ji10)
     ·rw [if_pos c11] at H
      have c11b0 : decide (0 ≤ (ji10)) = true := decide_eq_true c11
      clear c11
      by_cases c12 : (ji10) < 256
      ·rw [if_pos c12] at H
       have c12b0 : decide ((ji10) < 256) = true := decide_eq_true c12
       clear c12
       by_cases c14 : 0 ≤ (Go.bits .and .u32 a0 255)
       ·rw [if_pos c14] at H
        have c14b0 : decide (0 ≤ (Go.bits .and .u32 a0 255)) = true := decide_eq_true c14
        clear c14
        by_cases c15 : (Go.bits .and .u32 a0 255) < 256
        ·rw [if_pos c15] at H
         have c15b0 : decide ((Go.bits .and .u32 a0 255) < 256) = true := decide_eq_true c15
         clear c15
         obtain rfl := Option.some.inj H
         have p5 : 0 ≤ ((ji2) : Int) := of_decide_eq_true as_
         have q5 : (ji2) < (256 : Int) := of_decide_eq_true as_
         have hx5 := bt_at (⟨#[0, 1, 1, 2, 1, 2, 2, 3, 1, 2, 2, 3, 2, 3, 3, 4, 1, 2, 2, 3, 2, 3, 3, 4, 2, 3, 3, 4, 3, 4, 4, 5, 1, 2, 2, 3, 2, 3, 3, 4, 2, 3, 3, 4, 3, 4, 4, 5, 2, 3, 3, 4, 3, 4, 4, 5, 3, 4, 4, 5, 4, 5, 5, 6, 1, 2, 2, 3, 2, 3, 3, 4, 2, 3, 3, 4, 3, 4, 4, 5, 2, 3, 3, 4, 3, 4, 4, 5, 3, 4, 4, 5, 4, 5, 5, 6, 2, 3, 3, 4, 3, 4, 4, 5, 3, 4, 4, 5, 4, 5, 5, 6, 3, 4, 4, 5, 4, 5, 5, 6, 4, 5, 5, 6, 5, 6, 6, 7, 1, 2, 2, 3, 2, 3, 3, 4, 2, 3, 3, 4, 3, 4, 4, 5, 2, 3, 3, 4, 3, 4, 4, 5, 3, 4, 4, 5, 4, 5, 5, 6, 2, 3, 3, 4, 3, 4, 4, 5, 3, 4, 4, 5, 4, 5, 5, 6, 3, 4, 4, 5, 4, 5, 5, 6, 4, 5, 5, 6, 5, 6, 6, 7, 2, 3, 3, 4, 3, 4, 4, 5, 3, 4, 4, 5, 4, 5, 5, 6, 3, 4, 4, 5, 4, 5, 5, 6, 4, 5, 5, 6, 5, 6, 6, 7, 3, 4, 4, 5, 4, 5, 5, 6, 4, 5, 5, 6, 5, 6, 6, 7, 4, 5, 5, 6, 5, 6, 6, 7, 5, 6, 6, 7, 6, 7, 7, 8]⟩ : ByteArray) (ji2)
         replace p5 := eq_true p5
         replace q5 := eq_true q5
         have p9 : 0 ≤ ((ji6) : Int) := of_decide_eq_true as_
         have q9 : (ji6) < (256 : Int) := of_decide_eq_true as_
         have hx9 := bt_at (⟨#[0, 1, 1, 2, 1, 2, 2, 3, 1, 2, 2, 3, 2, 3, 3, 4, 1, 2, 2, 3, 2, 3, 3, 4, 2, 3, 3, 4, 3, 4, 4, 5, 1, 2, 2, 3, 2, 3, 3, 4, 2, 3, 3, 4, 3, 4, 4, 5, 2, 3, 3, 4, 3, 4, 4, 5, 3, 4, 4, 5, 4, 5, 5, 6, 1, 2, 2, 3, 2, 3, 3, 4, 2, 3, 3, 4, 3, 4, 4, 5, 2, 3, 3, 4, 3, 4, 4, 5, 3, 4, 4, 5, 4, 5, 5, 6, 2, 3, 3, 4, 3, 4, 4, 5, 3, 4, 4, 5, 4, 5, 5, 6, 3, 4, 4, 5, 4, 5, 5, 6, 4, 5, 5, 6, 5, 6, 6, 7, 1, 2, 2, 3, 2, 3, 3, 4, 2, 3, 3, 4, 3, 4, 4, 5, 2, 3, 3, 4, 3, 4, 4, 5, 3, 4, 4, 5, 4, 5, 5, 6, 2, 3, 3, 4, 3, 4, 4, 5, 3, 4, 4, 5, 4, 5, 5, 6, 3, 4, 4, 5, 4, 5, 5, 6, 4, 5, 5, 6, 5, 6, 6, 7, 2, 3, 3, 4, 3, 4, 4, 5, 3, 4, 4, 5, 4, 5, 5, 6, 3, 4, 4, 5, 4, 5, 5, 6, 4, 5, 5, 6, 5, 6, 6, 7, 3, 4, 4, 5, 4, 5, 5, 6, 4, 5, 5, 6, 5, 6, 6, 7, 4, 5, 5, 6, 5, 6, 6, 7, 5, 6, 6, 7, 6, 7, 7, 8]⟩ : ByteArray) (ji6)
         replace p9 := eq_true p9
         replace q9 := eq_true q9
         have p13 : 0 ≤ ((ji10) : Int) := of_decide_eq_true as_
         have q13 : (ji10) < (256 : Int) := of_decide_eq_true as_
         have hx13 := bt_at (⟨#[0, 1, 1, 2, 1, 2, 2, 3, 1, 2, 2, 3, 2, 3, 3, 4, 1, 2, 2, 3, 2, 3, 3, 4, 2, 3, 3, 4, 3, 4, 4, 5, 1, 2, 2, 3, 2, 3, 3, 4, 2, 3, 3, 4, 3, 4, 4, 5, 2, 3, 3, 4, 3, 4, 4, 5, 3, 4, 4, 5, 4, 5, 5, 6, 1, 2, 2, 3, 2, 3, 3, 4, 2, 3, 3, 4, 3, 4, 4, 5, 2, 3, 3, 4, 3, 4, 4, 5, 3, 4, 4, 5, 4, 5, 5, 6, 2, 3, 3, 4, 3, 4, 4, 5, 3, 4, 4, 5, 4, 5, 5, 6, 3, 4, 4, 5, 4, 5, 5, 6, 4, 5, 5, 6, 5, 6, 6, 7, 1, 2, 2, 3, 2, 3, 3, 4, 2, 3, 3, 4, 3, 4, 4, 5, 2, 3, 3, 4, 3, 4, 4, 5, 3, 4, 4, 5, 4, 5, 5, 6, 2, 3, 3, 4, 3, 4, 4, 5, 3, 4, 4, 5, 4, 5, 5, 6, 3, 4, 4, 5, 4, 5, 5, 6, 4, 5, 5, 6, 5, 6, 6, 7, 2, 3, 3, 4, 3, 4, 4, 5, 3, 4, 4, 5, 4, 5, 5, 6, 3, 4, 4, 5, 4, 5, 5, 6, 4, 5, 5, 6, 5, 6, 6, 7, 3, 4, 4, 5, 4, 5, 5, 6, 4, 5, 5, 6, 5, 6, 6, 7, 4, 5, 5, 6, 5, 6, 6, 7, 5, 6, 6, 7, 6, 7, 7, 8]⟩ : ByteArray) (ji10)
         replace p13 := eq_true p13
         replace q13 := eq_true q13
         have p16 : 0 ≤ ((Go.bits .and .u32 a0 255) : Int) := of_decide_eq_true as_
         have q16 : (Go.bits .and .u32 a0 255) < (256 : Int) := of_decide_eq_true as_
         have hx16 := bt_at (⟨#[0, 1, 1, 2, 1, 2, 2, 3, 1, 2, 2, 3, 2, 3, 3, 4, 1, 2, 2, 3, 2, 3, 3, 4, 2, 3, 3, 4, 3, 4, 4, 5, 1, 2, 2, 3, 2, 3, 3, 4, 2, 3, 3, 4, 3, 4, 4, 5, 2, 3, 3, 4, 3, 4, 4, 5, 3, 4, 4, 5, 4, 5, 5, 6, 1, 2, 2, 3, 2, 3, 3, 4, 2, 3, 3, 4, 3, 4, 4, 5, 2, 3, 3, 4, 3, 4, 4, 5, 3, 4, 4, 5, 4, 5, 5, 6, 2, 3, 3, 4, 3, 4, 4, 5, 3, 4, 4, 5, 4, 5, 5, 6, 3, 4, 4, 5, 4, 5, 5, 6, 4, 5, 5, 6, 5, 6, 6, 7, 1, 2, 2, 3, 2, 3, 3, 4, 2, 3, 3, 4, 3, 4, 4, 5, 2, 3, 3, 4, 3, 4, 4, 5, 3, 4, 4, 5, 4, 5, 5, 6, 2, 3, 3, 4, 3, 4, 4, 5, 3, 4, 4, 5, 4, 5, 5, 6, 3, 4, 4, 5, 4, 5, 5, 6, 4, 5, 5, 6, 5, 6, 6, 7, 2, 3, 3, 4, 3, 4, 4, 5, 3, 4, 4, 5, 4, 5, 5, 6, 3, 4, 4, 5, 4, 5, 5, 6, 4, 5, 5, 6, 5, 6, 6, 7, 3, 4, 4, 5, 4, 5, 5, 6, 4, 5, 5, 6, 5, 6, 6, 7, 4, 5, 5, 6, 5, 6, 6, 7, 5, 6, 6, 7, 6, 7, 7, 8]⟩ : ByteArray) (Go.bits .and .u32 a0 255)
         replace p16 := eq_true p16
         replace q16 := eq_true q16
         go_enter Tryz.func111, Tryz.ntmps111
         go_wp2
         repeat (go_quiet (fail); try go_wp2)
         go_ret
         exact ⟨by first | rfl | (simp; done) | (simp only [← hji2, ← hji6, ← hji10] <;> (first | rfl | simp)) | (simp [*]; done), dr⟩
        ·rw [if_neg c15] at H
         exact absurd H (by simp)
       ·rw [if_neg c14] at H
        exact absurd H (by simp)
      ·rw [if_neg c12] at H
       exact absurd H (by simp)
     ·rw [if_neg c11] at H
      exact absurd H (by simp)
    ·rw [if_neg c8] at H
     exact absurd H (by simp)
   ·rw [if_neg c7] at H
    exact absurd H (by simp)
  ·rw [if_neg c4] at H
   exact absurd H (by simp)
 ·rw [if_neg c3] at H
  exact absurd H (by simp)

/-! ### impl_Ones: function 108 -/
def impl_Ones.f (a0 : Int) : Option (Int) := (bits_OnesCount32.f a0).bind fun t531 => (some t531)
set_option maxHeartbeats 8000000 in
set_option maxRecDepth 100000 in
theorem impl_Ones.calls (a0 : Int) (r : Int) (w : World) (h : impl_Ones.f a0 = some r) :
  Calls Tryz.prog 108 #[.int .u32 a0] w fun e w' => e = .returned (.int .i64 r) ∧ Drawn0 w w' := by
 unfold impl_Ones.f at h
 have H := h
 clear h
 replace H := bn H
 obtain ⟨t531, A2, H⟩ := H
 try dsimp only at H
 obtain rfl := Option.some.inj H
 go_enter Tryz.func108, Tryz.ntmps108
 go_wp2_with (first | ((with_reducible refine gf 111 ?_); refine gc Tryz.func111 (some 4) (bits_OnesCount32.calls _ _ _ A2.out) ?_; rintro e w' ⟨rfl, ⟨nd, rfl⟩⟩; refine ⟨_, rfl, ?_⟩))
 go_ret
 exact ⟨ev, dr⟩

/-! ### impl_roomOf: function 104 -/
def impl_roomOf.j0 : Nat → Int → Bool → Int → Int → Int → Int → Option (Int)
 | 0, _, _, _, _, _, _ => none
 | k + 1, x1, x11, x533000, x533001, x533002, x533003 => if x11 = true then ((impl_PerPage.f x1).bind fun t534 => ((impl_Ones.f x533002).bind fun t535 => (some (wrap64 (t534 - t535))))) else (some 0)
def impl_roomOf.f (k : Nat) (a0_0 : Int) (a0_1 : Int) (a0_2 : Int) (a0_3 : Int) (a1 : Int) : Option (Int) := if a0_0 = 0 then ((impl_PerPage.f a1).bind fun t533 => (some t533)) else (if a0_0 = 1 then (impl_roomOf.j0 k a1 (a0_1 == a1) a0_0 a0_1 a0_2 a0_3) else (impl_roomOf.j0 k a1 false a0_0 a0_1 a0_2 a0_3))
theorem impl_roomOf.mono_l : ∀ k, (∀ y0 y1 y2 y3 y4 y5, LeO (impl_roomOf.j0 k y0 y1 y2 y3 y4 y5) (impl_roomOf.j0 (k + 1) y0 y1 y2 y3 y4 y5))
 | 0 => fun _ _ _ _ _ _ r h => by simp [impl_roomOf.j0] at h
 | k + 1 => by
  have ih0 := impl_roomOf.mono_l k
  ·intro y0 y1 y2 y3 y4 y5
   unfold impl_roomOf.j0
   repeat' first
    | (with_reducible first | exact ih0 .. | exact LeO.refl _ | exact LeO.none _ | refine LeO.ite ?_ ?_ | refine LeO.bind ?_ (fun _ => ?_))
    | exact LeO.none _ | refine LeO.ite ?_ ?_ | refine LeO.bind ?_ (fun _ => ?_)
theorem impl_roomOf.mono : ∀ a0 a1 a2 a3 a4 k, LeO (impl_roomOf.f k a0 a1 a2 a3 a4) (impl_roomOf.f (k + 1) a0 a1 a2 a3 a4) := by
 intro a0 a1 a2 a3 a4 k
 have ih0 := impl_roomOf.mono_l k
 unfold impl_roomOf.f
 repeat' first
  | (with_reducible first | exact ih0 .. | exact LeO.refl _ | exact LeO.none _ | refine LeO.ite ?_ ?_ | refine LeO.bind ?_ (fun _ => ?_))
  | exact LeO.none _ | refine LeO.ite ?_ ?_ | refine LeO.bind ?_ (fun _ => ?_)
set_option maxHeartbeats 8000000 in
set_option maxRecDepth 100000 in
theorem impl_roomOf.calls (k : Nat) (a0_0 : Int) (a0_1 : Int) (a0_2 : Int) (a0_3 : Int) (a1 : Int) (r : Int) (w : World) (h : impl_roomOf.f k a0_0 a0_1 a0_2 a0_3 a1 = some r) :
  Calls Tryz.prog 104 #[.agg #[.int .i64 a0_0, .int .i64 a0_1, .int .u32 a0_2, .int .i64 a0_3], .int .i64 a1] w fun e w' => e = .returned (.int .i64 r) ∧ Below w.heap.size w w' := by
 have hu75 := Tryz.underlying75
 have HB := Aside0.mk (Below.refl w.heap.size w)
 unfold impl_roomOf.f at h
 have H := h
 clear h
 have HU3 := Aside0.mk H
 clear H
 go_enter Tryz.func104, Tryz.ntmps104
 go_upto_if 5 with (first | ((with_reducible refine gd 2 ?_); refine bx 2 75 #[.int .i64 a0_0, .int .i64 a0_1, .int .u32 a0_2, .int .i64 a0_3] ?_; clear HB; intro gb532 w4 hg BK532 hb GE532 HB; clear hb hg; obtain ⟨z5_0, z5_1, z5_2, z5_3⟩ := ca4 BK532; obtain ⟨f5_0, f5_1, f5_2, f5_3⟩ := fa4 BK532))
 repeat (go_quiet (first | ((with_reducible refine gd 2 ?_); refine bx 2 75 #[.int .i64 a0_0, .int .i64 a0_1, .int .u32 a0_2, .int .i64 a0_3] ?_; clear HB; intro gb532 w4 hg BK532 hb GE532 HB; clear hb hg; obtain ⟨z5_0, z5_1, z5_2, z5_3⟩ := ca4 BK532; obtain ⟨f5_0, f5_1, f5_2, f5_3⟩ := fa4 BK532)); go_upto_if 5 with (first | ((with_reducible refine gd 2 ?_); refine bx 2 75 #[.int .i64 a0_0, .int .i64 a0_1, .int .u32 a0_2, .int .i64 a0_3] ?_; clear HB; intro gb532 w4 hg BK532 hb GE532 HB; clear hb hg; obtain ⟨z5_0, z5_1, z5_2, z5_3⟩ := ca4 BK532; obtain ⟨f5_0, f5_1, f5_2, f5_3⟩ := fa4 BK532)))
 (try refine ap ?_)
 have H := HU3.out
 clear HU3
 replace H := ieq H
 rcases H with ⟨c6b0, c6b1, H⟩ | ⟨c6, c6b0, c6b1, H⟩
 ·(first | rw [c6b0] | (simp only [i64_w, i32_w]; rw [c6b0]) | (simp only [c6b2, Bool.not_true, Bool.not_false]) | (simp only [c6b1, Bool.not_true, Bool.not_false]) | skip)
  replace H := bn H
  obtain ⟨t533, A7, H⟩ := H
  try dsimp only at H
  obtain rfl := Option.some.inj H
  go_wp2_with (first | (go_at_call 97; (with_reducible refine (impl_PerPage.calls _ _ _ A7.out).mono ?_); rintro e w' ⟨rfl, ⟨nd, rfl⟩⟩; (try first | exact ⟨rfl, _, World.drewN_drewN _ _ _⟩ | exact ⟨rfl, _, Eq.trans (World.drewN_drewN _ _ _) (congrArg (World.drewN _) (Nat.add_assoc _ _ _))⟩)))
  repeat (go_quiet (first | (go_at_call 97; (with_reducible refine (impl_PerPage.calls _ _ _ A7.out).mono ?_); rintro e w' ⟨rfl, ⟨nd, rfl⟩⟩; (try first | exact ⟨rfl, _, World.drewN_drewN _ _ _⟩ | exact ⟨rfl, _, Eq.trans (World.drewN_drewN _ _ _) (congrArg (World.drewN _) (Nat.add_assoc _ _ _))⟩))); try go_wp2_with (first | (go_at_call 97; (with_reducible refine (impl_PerPage.calls _ _ _ A7.out).mono ?_); rintro e w' ⟨rfl, ⟨nd, rfl⟩⟩; (try first | exact ⟨rfl, _, World.drewN_drewN _ _ _⟩ | exact ⟨rfl, _, Eq.trans (World.drewN_drewN _ _ _) (congrArg (World.drewN _) (Nat.add_assoc _ _ _))⟩))))
  go_ret
  exact ⟨rt, bw⟩
 ·(first | rw [c6b0] | (simp only [i64_w, i32_w]; rw [c6b0]) | (simp only [c6b2, Bool.not_true, Bool.not_false]) | (simp only [c6b1, Bool.not_true, Bool.not_false]) | skip)
  have HC8 := Aside0.mk H
  clear H
  go_upto_region 3 with (fail)
  repeat (go_quiet (fail); go_upto_region 3 with (fail))
  go_cut [11] (fun v11 wc => ∃ (kq : Nat) (x11_7 : Bool), v11 = .bool x11_7 ∧ Aside0 (impl_roomOf.j0 kq a1 x11_7 a0_0 a0_1 a0_2 a0_3 = some r) ∧ Aside0 (kq ≤ k) ∧ Aside0 (wc.heap[gb532]? = some (.cells #[.int .i64 a0_0, .int .i64 a0_1, .int .u32 a0_2, .int .i64 a0_3] 75 (0, 0))) ∧ Aside0 (Below w.heap.size w wc))
  case first => as_aux_lemma =>
   have H := HC8.out
   clear HC8
   replace H := ieq H
   rcases H with ⟨c9b0, c9b1, H⟩ | ⟨c9, c9b0, c9b1, H⟩
   ·(first | rw [c9b0] | (simp only [i64_w, i32_w]; rw [c9b0]) | (simp only [c9b2, Bool.not_true, Bool.not_false]) | (simp only [c9b1, Bool.not_true, Bool.not_false]) | skip)
    have H' := Aside0.mk H
    clear H
    obtain ⟨z10_0, z10_1, z10_2, z10_3⟩ := ca4 BK532
    obtain ⟨f10_0, f10_1, f10_2, f10_3⟩ := fa4 BK532
    go_wp2
    repeat (go_quiet (fail); try go_wp2)
    go_meet
    case rel => exact ⟨_, ((a0_1 == a1)), ev, H', ⟨om⟩, ⟨bk BK532⟩, ⟨bw⟩⟩
   ·(first | rw [c9b0] | (simp only [i64_w, i32_w]; rw [c9b0]) | (simp only [c9b2, Bool.not_true, Bool.not_false]) | (simp only [c9b1, Bool.not_true, Bool.not_false]) | skip)
    have H' := Aside0.mk H
    clear H
    obtain ⟨z11_0, z11_1, z11_2, z11_3⟩ := ca4 BK532
    obtain ⟨f11_0, f11_1, f11_2, f11_3⟩ := fa4 BK532
    go_wp2
    repeat (go_quiet (fail); try go_wp2)
    go_meet
    case rel => exact ⟨_, (false), ev, H', ⟨om⟩, ⟨bk BK532⟩, ⟨bw⟩⟩
  case rest => as_aux_lemma =>
   clear HC8
   try clear c6
   try clear c6b0
   try clear c6b1
   try clear c6b2
   (try clear z5_0 z5_1 z5_2 z5_3)
   (try clear f5_0 f5_1 f5_2 f5_3)
   obtain ⟨kq, x11_7, rfl, HA, HJ7, BK532, HB⟩ := hcut
   cases kq with
   | zero => exact absurd HA.out (by simp [impl_roomOf.j0])
   | succ kj7 =>
    have H := HA.out
    clear HA
    simp only [impl_roomOf.j0] at H
    replace H := ib H
    rcases H with ⟨rfl, H⟩ | ⟨rfl, H⟩
    ·replace H := bn H
     obtain ⟨t534, A13, H⟩ := H
     try dsimp only at H
     replace H := bn H
     obtain ⟨t535, A14, H⟩ := H
     try dsimp only at H
     obtain rfl := Option.some.inj H
     go_wp2_with (first | (go_at_call 97; (with_reducible refine (impl_PerPage.calls _ _ _ A13.out).mono ?_); rintro e w' ⟨rfl, ⟨nd, rfl⟩⟩; (try first | exact ⟨rfl, _, World.drewN_drewN _ _ _⟩ | exact ⟨rfl, _, Eq.trans (World.drewN_drewN _ _ _) (congrArg (World.drewN _) (Nat.add_assoc _ _ _))⟩); obtain ⟨z15_0, z15_1, z15_2, z15_3⟩ := ca4 BK532; obtain ⟨f15_0, f15_1, f15_2, f15_3⟩ := fa4 BK532) | (go_at_call 108; (with_reducible refine (impl_Ones.calls _ _ _ A14.out).mono ?_); rintro e w' ⟨rfl, ⟨nd, rfl⟩⟩; (try first | exact ⟨rfl, _, World.drewN_drewN _ _ _⟩ | exact ⟨rfl, _, Eq.trans (World.drewN_drewN _ _ _) (congrArg (World.drewN _) (Nat.add_assoc _ _ _))⟩)))
     repeat (go_quiet (first | (go_at_call 97; (with_reducible refine (impl_PerPage.calls _ _ _ A13.out).mono ?_); rintro e w' ⟨rfl, ⟨nd, rfl⟩⟩; (try first | exact ⟨rfl, _, World.drewN_drewN _ _ _⟩ | exact ⟨rfl, _, Eq.trans (World.drewN_drewN _ _ _) (congrArg (World.drewN _) (Nat.add_assoc _ _ _))⟩); obtain ⟨z15_0, z15_1, z15_2, z15_3⟩ := ca4 BK532; obtain ⟨f15_0, f15_1, f15_2, f15_3⟩ := fa4 BK532) | (go_at_call 108; (with_reducible refine (impl_Ones.calls _ _ _ A14.out).mono ?_); rintro e w' ⟨rfl, ⟨nd, rfl⟩⟩; (try first | exact ⟨rfl, _, World.drewN_drewN _ _ _⟩ | exact ⟨rfl, _, Eq.trans (World.drewN_drewN _ _ _) (congrArg (World.drewN _) (Nat.add_assoc _ _ _))⟩))); try go_wp2_with (first | (go_at_call 97; (with_reducible refine (impl_PerPage.calls _ _ _ A13.out).mono ?_); rintro e w' ⟨rfl, ⟨nd, rfl⟩⟩; (try first | exact ⟨rfl, _, World.drewN_drewN _ _ _⟩ | exact ⟨rfl, _, Eq.trans (World.drewN_drewN _ _ _) (congrArg (World.drewN _) (Nat.add_assoc _ _ _))⟩); obtain ⟨z15_0, z15_1, z15_2, z15_3⟩ := ca4 BK532; obtain ⟨f15_0, f15_1, f15_2, f15_3⟩ := fa4 BK532) | (go_at_call 108; (with_reducible refine (impl_Ones.calls _ _ _ A14.out).mono ?_); rintro e w' ⟨rfl, ⟨nd, rfl⟩⟩; (try first | exact ⟨rfl, _, World.drewN_drewN _ _ _⟩ | exact ⟨rfl, _, Eq.trans (World.drewN_drewN _ _ _) (congrArg (World.drewN _) (Nat.add_assoc _ _ _))⟩))))
     go_ret
     exact ⟨rt, bw⟩
    ·obtain rfl := Option.some.inj H
     go_wp2
     repeat (go_quiet (fail); try go_wp2)
     go_ret
     exact ⟨rt, bw⟩

/-! ### impl_Room: function 94 -/
def impl_Room.f (k : Nat) (a0 : Int) (a1 : Int) : Option (Int) := (impl_CtlRead.f k a0).bind fun bt536 => (if bt536.2.2.2.2 = true then ((impl_roomOf.f k bt536.1 bt536.2.1 bt536.2.2.1 bt536.2.2.2.1 a1).bind fun t542 => (some t542)) else (some 0))
theorem impl_Room.mono : ∀ a0 a1 k, LeO (impl_Room.f k a0 a1) (impl_Room.f (k + 1) a0 a1) := by
 intro a0 a1 k
 unfold impl_Room.f
 repeat' first
  | (with_reducible first | exact impl_CtlRead.mono .. | exact impl_roomOf.mono .. | exact LeO.refl _ | exact LeO.none _ | refine LeO.ite ?_ ?_ | refine LeO.bind ?_ (fun _ => ?_))
  | exact LeO.none _ | refine LeO.ite ?_ ?_ | refine LeO.bind ?_ (fun _ => ?_)
set_option maxHeartbeats 8000000 in
set_option maxRecDepth 100000 in
theorem impl_Room.calls (k : Nat) (a0 : Int) (a1 : Int) (r : Int) (w : World) (h : impl_Room.f k a0 a1 = some r) :
  Calls Tryz.prog 94 #[.int .u32 a0, .int .i64 a1] w fun e w' => e = .returned (.int .i64 r) ∧ Below w.heap.size w w' := by
 have hu75 := Tryz.underlying75
 have HB := Aside0.mk (Below.refl w.heap.size w)
 unfold impl_Room.f at h
 have H := h
 clear h
 replace H := bn H
 obtain ⟨⟨t536, t537, t538, t539, t540⟩, A3, H⟩ := H
 try dsimp only at H
 have HU4 := Aside0.mk H
 clear H
 go_enter Tryz.func94, Tryz.ntmps94
 go_upto_if 13 with (first | ((with_reducible refine gf 47 ?_); refine gc Tryz.func47 (some 9) (impl_CtlRead.calls _ _ _ _ _ _ _ _ A3.out) ?_; rintro e w5 ⟨rfl, hb⟩; refine ⟨_, rfl, ?_⟩; replace HB := hs hb; try clear hb) | ((with_reducible refine gd 5 ?_); refine bx 5 75 #[.int .i64 0, .int .i64 0, .int .u32 0, .int .i64 0] ?_; clear HB; intro gb541 w6 hg BK541 hb GE541 HB; clear hb hg; obtain ⟨z7_0, z7_1, z7_2, z7_3⟩ := ca4 BK541; obtain ⟨f7_0, f7_1, f7_2, f7_3⟩ := fa4 BK541))
 (try refine ap ?_)
 have H := HU4.out
 clear HU4
 replace H := ib H
 rcases H with ⟨rfl, H⟩ | ⟨rfl, H⟩
 ·(try simp only [Bool.not_true, Bool.not_false])
  replace H := bn H
  obtain ⟨t542, A9, H⟩ := H
  try dsimp only at H
  obtain rfl := Option.some.inj H
  obtain ⟨z10_0, z10_1, z10_2, z10_3⟩ := ca4 BK541
  obtain ⟨f10_0, f10_1, f10_2, f10_3⟩ := fa4 BK541
  go_wp2_with (first | ((with_reducible refine gf 104 ?_); refine gc Tryz.func104 (some 16) (impl_roomOf.calls _ _ _ _ _ _ _ _ A9.out) ?_; rintro e w11 ⟨rfl, hb⟩; refine ⟨_, rfl, ?_⟩; replace BK541 := bq BK541 #[.int .i64 t536, .int .i64 t537, .int .u32 t538, .int .i64 t539] hb; replace HB := hs hb; try clear hb))
  go_ret
  exact ⟨rt, bw⟩
 ·(try simp only [Bool.not_true, Bool.not_false])
  obtain rfl := Option.some.inj H
  go_wp2
  go_ret
  exact ⟨rt, bw⟩

/-! ### bits_Len64: function 110 -/
def bits_Len64.j0 : Nat → Int → Int → Option (Int)
 | 0, _, _ => none
 | k + 1, x0, x2 => if x0 ≥ 65536 then (if (x0 / 65536) ≥ 256 then (if 0 ≤ (((x0 / 65536) / 256) % 256) then (if (((x0 / 65536) / 256) % 256) < 256 then (some (wrap64 ((wrap64 ((wrap64 (x2 + 16)) + 8)) + (wrap64 (bt (⟨#[0, 1, 2, 2, 3, 3, 3, 3, 4, 4, 4, 4, 4, 4, 4, 4, 5, 5, 5, 5, 5, 5, 5, 5, 5, 5, 5, 5, 5, 5, 5, 5, 6, 6, 6, 6, 6, 6, 6, 6, 6, 6, 6, 6, 6, 6, 6, 6, 6, 6, 6, 6, 6, 6, 6, 6, 6, 6, 6, 6, 6, 6, 6, 6, 7, 7, 7, 7, 7, 7, 7, 7, 7, 7, 7, 7, 7, 7, 7, 7, 7, 7, 7, 7, 7, 7, 7, 7, 7, 7, 7, 7, 7, 7, 7, 7, 7, 7, 7, 7, 7, 7, 7, 7, 7, 7, 7, 7, 7, 7, 7, 7, 7, 7, 7, 7, 7, 7, 7, 7, 7, 7, 7, 7, 7, 7, 7, 7, 8, 8, 8, 8, 8, 8, 8, 8, 8, 8, 8, 8, 8, 8, 8, 8, 8, 8, 8, 8, 8, 8, 8, 8, 8, 8, 8, 8, 8, 8, 8, 8, 8, 8, 8, 8, 8, 8, 8, 8, 8, 8, 8, 8, 8, 8, 8, 8, 8, 8, 8, 8, 8, 8, 8, 8, 8, 8, 8, 8, 8, 8, 8, 8, 8, 8, 8, 8, 8, 8, 8, 8, 8, 8, 8, 8, 8, 8, 8, 8, 8, 8, 8, 8, 8, 8, 8, 8, 8, 8, 8, 8, 8, 8, 8, 8, 8, 8, 8, 8, 8, 8, 8, 8, 8, 8, 8, 8, 8, 8, 8, 8, 8, 8, 8, 8, 8, 8, 8, 8, 8, 8, 8, 8, 8, 8, 8, 8]⟩ : ByteArray) (((x0 / 65536) / 256) % 256)))))) else (none)) else (none)) else (if 0 ≤ ((x0 / 65536) % 256) then (if ((x0 / 65536) % 256) < 256 then (some (wrap64 ((wrap64 (x2 + 16)) + (wrap64 (bt (⟨#[0, 1, 2, 2, 3, 3, 3, 3, 4, 4, 4, 4, 4, 4, 4, 4, 5, 5, 5, 5, 5, 5, 5, 5, 5, 5, 5, 5, 5, 5, 5, 5, 6, 6, 6, 6, 6, 6, 6, 6, 6, 6, 6, 6, 6, 6, 6, 6, 6, 6, 6, 6, 6, 6, 6, 6, 6, 6, 6, 6, 6, 6, 6, 6, 7, 7, 7, 7, 7, 7, 7, 7, 7, 7, 7, 7, 7, 7, 7, 7, 7, 7, 7, 7, 7, 7, 7, 7, 7, 7, 7, 7, 7, 7, 7, 7, 7, 7, 7, 7, 7, 7, 7, 7, 7, 7, 7, 7, 7, 7, 7, 7, 7, 7, 7, 7, 7, 7, 7, 7, 7, 7, 7, 7, 7, 7, 7, 7, 8, 8, 8, 8, 8, 8, 8, 8, 8, 8, 8, 8, 8, 8, 8, 8, 8, 8, 8, 8, 8, 8, 8, 8, 8, 8, 8, 8, 8, 8, 8, 8, 8, 8, 8, 8, 8, 8, 8, 8, 8, 8, 8, 8, 8, 8, 8, 8, 8, 8, 8, 8, 8, 8, 8, 8, 8, 8, 8, 8, 8, 8, 8, 8, 8, 8, 8, 8, 8, 8, 8, 8, 8, 8, 8, 8, 8, 8, 8, 8, 8, 8, 8, 8, 8, 8, 8, 8, 8, 8, 8, 8, 8, 8, 8, 8, 8, 8, 8, 8, 8, 8, 8, 8, 8, 8, 8, 8, 8, 8, 8, 8, 8, 8, 8, 8, 8, 8, 8, 8, 8, 8, 8, 8, 8, 8, 8, 8]⟩ : ByteArray) ((x0 / 65536) % 256)))))) else (none)) else (none))) else (if x0 ≥ 256 then (if 0 ≤ ((x0 / 256) % 256) then (if ((x0 / 256) % 256) < 256 then (some (wrap64 ((wrap64 (x2 + 8)) + (wrap64 (bt (⟨#[0, 1, 2, 2, 3, 3, 3, 3, 4, 4, 4, 4, 4, 4, 4, 4, 5, 5, 5, 5, 5, 5, 5, 5, 5, 5, 5, 5, 5, 5, 5, 5, 6, 6, 6, 6, 6, 6, 6, 6, 6, 6, 6, 6, 6, 6, 6, 6, 6, 6, 6, 6, 6, 6, 6, 6, 6, 6, 6, 6, 6, 6, 6, 6, 7, 7, 7, 7, 7, 7, 7, 7, 7, 7, 7, 7, 7, 7, 7, 7, 7, 7, 7, 7, 7, 7, 7, 7, 7, 7, 7, 7, 7, 7, 7, 7, 7, 7, 7, 7, 7, 7, 7, 7, 7, 7, 7, 7, 7, 7, 7, 7, 7, 7, 7, 7, 7, 7, 7, 7, 7, 7, 7, 7, 7, 7, 7, 7, 8, 8, 8, 8, 8, 8, 8, 8, 8, 8, 8, 8, 8, 8, 8, 8, 8, 8, 8, 8, 8, 8, 8, 8, 8, 8, 8, 8, 8, 8, 8, 8, 8, 8, 8, 8, 8, 8, 8, 8, 8, 8, 8, 8, 8, 8, 8, 8, 8, 8, 8, 8, 8, 8, 8, 8, 8, 8, 8, 8, 8, 8, 8, 8, 8, 8, 8, 8, 8, 8, 8, 8, 8, 8, 8, 8, 8, 8, 8, 8, 8, 8, 8, 8, 8, 8, 8, 8, 8, 8, 8, 8, 8, 8, 8, 8, 8, 8, 8, 8, 8, 8, 8, 8, 8, 8, 8, 8, 8, 8, 8, 8, 8, 8, 8, 8, 8, 8, 8, 8, 8, 8, 8, 8, 8, 8, 8, 8]⟩ : ByteArray) ((x0 / 256) % 256)))))) else (none)) else (none)) else (if 0 ≤ ((x0) % 256) then (if ((x0) % 256) < 256 then (some (wrap64 (x2 + (wrap64 (bt (⟨#[0, 1, 2, 2, 3, 3, 3, 3, 4, 4, 4, 4, 4, 4, 4, 4, 5, 5, 5, 5, 5, 5, 5, 5, 5, 5, 5, 5, 5, 5, 5, 5, 6, 6, 6, 6, 6, 6, 6, 6, 6, 6, 6, 6, 6, 6, 6, 6, 6, 6, 6, 6, 6, 6, 6, 6, 6, 6, 6, 6, 6, 6, 6, 6, 7, 7, 7, 7, 7, 7, 7, 7, 7, 7, 7, 7, 7, 7, 7, 7, 7, 7, 7, 7, 7, 7, 7, 7, 7, 7, 7, 7, 7, 7, 7, 7, 7, 7, 7, 7, 7, 7, 7, 7, 7, 7, 7, 7, 7, 7, 7, 7, 7, 7, 7, 7, 7, 7, 7, 7, 7, 7, 7, 7, 7, 7, 7, 7, 8, 8, 8, 8, 8, 8, 8, 8, 8, 8, 8, 8, 8, 8, 8, 8, 8, 8, 8, 8, 8, 8, 8, 8, 8, 8, 8, 8, 8, 8, 8, 8, 8, 8, 8, 8, 8, 8, 8, 8, 8, 8, 8, 8, 8, 8, 8, 8, 8, 8, 8, 8, 8, 8, 8, 8, 8, 8, 8, 8, 8, 8, 8, 8, 8, 8, 8, 8, 8, 8, 8, 8, 8, 8, 8, 8, 8, 8, 8, 8, 8, 8, 8, 8, 8, 8, 8, 8, 8, 8, 8, 8, 8, 8, 8, 8, 8, 8, 8, 8, 8, 8, 8, 8, 8, 8, 8, 8, 8, 8, 8, 8, 8, 8, 8, 8, 8, 8, 8, 8, 8, 8, 8, 8, 8, 8, 8, 8]⟩ : ByteArray) ((x0) % 256)))))) else (none)) else (none)))
def bits_Len64.f (k : Nat) (a0 : Int) : Option (Int) := if a0 ≥ 4294967296 then (bits_Len64.j0 k (a0 / 4294967296) 32) else (bits_Len64.j0 k a0 0)
theorem bits_Len64.mono_l : ∀ k, (∀ y0 y1, LeO (bits_Len64.j0 k y0 y1) (bits_Len64.j0 (k + 1) y0 y1))
 | 0 => fun _ _ r h => by simp [bits_Len64.j0] at h
 | k + 1 => by
  have ih0 := bits_Len64.mono_l k
  ·intro y0 y1
   unfold bits_Len64.j0
   repeat' first
    | (with_reducible first | exact ih0 .. | exact LeO.refl _ | exact LeO.none _ | refine LeO.ite ?_ ?_ | refine LeO.bind ?_ (fun _ => ?_))
    | exact LeO.none _ | refine LeO.ite ?_ ?_ | refine LeO.bind ?_ (fun _ => ?_)
theorem bits_Len64.mono : ∀ a0 k, LeO (bits_Len64.f k a0) (bits_Len64.f (k + 1) a0) := by
 intro a0 k
 have ih0 := bits_Len64.mono_l k
 unfold bits_Len64.f
 repeat' first
  | (with_reducible first | exact ih0 .. | exact LeO.refl _ | exact LeO.none _ | refine LeO.ite ?_ ?_ | refine LeO.bind ?_ (fun _ => ?_))
  | exact LeO.none _ | refine LeO.ite ?_ ?_ | refine LeO.bind ?_ (fun _ => ?_)
set_option maxHeartbeats 8000000 in
set_option maxRecDepth 100000 in
theorem bits_Len64.calls (k : Nat) (a0 : Int) (r : Int) (w : World) (h : bits_Len64.f k a0 = some r) :
  Calls Tryz.prog 110 #[.int .u64 a0] w fun e w' => e = .returned (.int .i64 r) ∧ Drawn0 w w' := by
 unfold bits_Len64.f at h
 have H := h
 clear h
 have HC2 := Aside0.mk H
 clear H
 go_enter Tryz.func110, Tryz.ntmps110
 go_upto_if 4 with (fail)
 go_cut [0, 2] (fun v0 v2 wc => ∃ (kq : Nat) (x0_1 : Int) (x2_1 : Int), v0 = .int .u64 x0_1 ∧ v2 = .int .i64 x2_1 ∧ Aside0 (bits_Len64.j0 kq x0_1 x2_1 = some r) ∧ Aside0 (kq ≤ k) ∧ Drawn0 w wc)
 case first => as_aux_lemma =>
  have H := HC2.out
  clear HC2
  replace H := ige H
  rcases H with ⟨c3b0, H⟩ | ⟨c3b0, H⟩
  ·(first | rw [c3b0] | (simp only [i64_w, i32_w]; rw [c3b0]) | (simp only [c3b2, Bool.not_true, Bool.not_false]) | (simp only [c3b1, Bool.not_true, Bool.not_false]) | skip)
   have H' := Aside0.mk H
   clear H
   go_wp2
   go_meet
   case rel => exact ⟨_, (a0 / 4294967296), (32), ev, ev, H', ⟨om⟩, dr⟩
  ·(first | rw [c3b0] | (simp only [i64_w, i32_w]; rw [c3b0]) | (simp only [c3b2, Bool.not_true, Bool.not_false]) | (simp only [c3b1, Bool.not_true, Bool.not_false]) | skip)
   have H' := Aside0.mk H
   clear H
   go_wp2
   go_meet
   case rel => exact ⟨_, (a0), (0), ev, ev, H', ⟨om⟩, dr⟩
 case rest => as_aux_lemma =>
  clear HC2
  obtain ⟨kq, x0_1, x2_1, rfl, rfl, HA, HJ1, ⟨mc1, rfl⟩⟩ := hcut
  cases kq with
  | zero => exact absurd HA.out (by simp [bits_Len64.j0])
  | succ kj1 =>
   have H := HA.out
   clear HA
   simp only [bits_Len64.j0] at H
   replace H := ige H
   rcases H with ⟨c4b0, H⟩ | ⟨c4b0, H⟩
   ·replace H := ige H
    rcases H with ⟨c5b0, H⟩ | ⟨c5b0, H⟩
    ·obtain ⟨ji6, hji6⟩ : ∃ j_ : Int, (((x0_1 / 65536) / 256) % 256) = j_ := ⟨_, rfl⟩
     first | rw [hji6] at H | simp only [hji6] at H
     by_cases c7 : 0 ≤ (ji6)
     ·rw [if_pos c7] at H
      have c7b0 : decide (0 ≤ (ji6)) = true := decide_eq_true c7
      clear c7
      by_cases c8 : (ji6) < 256
      ·rw [if_pos c8] at H
       have c8b0 : decide ((ji6) < 256) = true := decide_eq_true c8
       clear c8
       obtain rfl := Option.some.inj H
       have p9 : 0 ≤ ((ji6) : Int) := of_decide_eq_true as_
       have q9 : (ji6) < (256 : Int) := of_decide_eq_true as_
       have hx9 := bt_at (⟨#[0, 1, 2, 2, 3, 3, 3, 3, 4, 4, 4, 4, 4, 4, 4, 4, 5, 5, 5, 5, 5, 5, 5, 5, 5, 5, 5, 5, 5, 5, 5, 5, 6, 6, 6, 6, 6, 6, 6, 6, 6, 6, 6, 6, 6, 6, 6, 6, 6, 6, 6, 6, 6, 6, 6, 6, 6, 6, 6, 6, 6, 6, 6, 6, 7, 7, 7, 7, 7, 7, 7, 7, 7, 7, 7, 7, 7, 7, 7, 7, 7, 7, 7, 7, 7, 7, 7, 7, 7, 7, 7, 7, 7, 7, 7, 7, 7, 7, 7, 7, 7, 7, 7, 7, 7, 7, 7, 7, 7, 7, 7, 7, 7, 7, 7, 7, 7, 7, 7, 7, 7, 7, 7, 7, 7, 7, 7, 7, 8, 8, 8, 8, 8, 8, 8, 8, 8, 8, 8, 8, 8, 8, 8, 8, 8, 8, 8, 8, 8, 8, 8, 8, 8, 8, 8, 8, 8, 8, 8, 8, 8, 8, 8, 8, 8, 8, 8, 8, 8, 8, 8, 8, 8, 8, 8, 8, 8, 8, 8, 8, 8, 8, 8, 8, 8, 8, 8, 8, 8, 8, 8, 8, 8, 8, 8, 8, 8, 8, 8, 8, 8, 8, 8, 8, 8, 8, 8, 8, 8, 8, 8, 8, 8, 8, 8, 8, 8, 8, 8, 8, 8, 8, 8, 8, 8, 8, 8, 8, 8, 8, 8, 8, 8, 8, 8, 8, 8, 8, 8, 8, 8, 8, 8, 8, 8, 8, 8, 8, 8, 8, 8, 8, 8, 8, 8, 8]⟩ : ByteArray) (ji6)
       replace p9 := eq_true p9
       replace q9 := eq_true q9
       go_wp2
       go_ret
       exact ⟨by first | rfl | (simp; done) | (simp only [← hji6] <;> (first | rfl | simp)) | (simp [*]; done), dr⟩
      ·rw [if_neg c8] at H
       exact absurd H (by simp)
     ·rw [if_neg c7] at H
      exact absurd H (by simp)
    ·obtain ⟨ji10, hji10⟩ : ∃ j_ : Int, ((x0_1 / 65536) % 256) = j_ := ⟨_, rfl⟩
     first | rw [hji10] at H | simp only [hji10] at H
     by_cases c11 : 0 ≤ (ji10)
     ·rw [if_pos c11] at H
      have c11b0 : decide (0 ≤ (ji10)) = true := decide_eq_true c11
      clear c11
      by_cases c12 : (ji10) < 256
      ·rw [if_pos c12] at H
       have c12b0 : decide ((ji10) < 256) = true := decide_eq_true c12
       clear c12
       obtain rfl := Option.some.inj H
       have p13 : 0 ≤ ((ji10) : Int) := of_decide_eq_true as_
       have q13 : (ji10) < (256 : Int) := of_decide_eq_true as_
       have hx13 := bt_at (⟨#[0, 1, 2, 2, 3, 3, 3, 3, 4, 4, 4, 4, 4, 4, 4, 4, 5, 5, 5, 5, 5, 5, 5, 5, 5, 5, 5, 5, 5, 5, 5, 5, 6, 6, 6, 6, 6, 6, 6, 6, 6, 6, 6, 6, 6, 6, 6, 6, 6, 6, 6, 6, 6, 6, 6, 6, 6, 6, 6, 6, 6, 6, 6, 6, 7, 7, 7, 7, 7, 7, 7, 7, 7, 7, 7, 7, 7, 7, 7, 7, 7, 7, 7, 7, 7, 7, 7, 7, 7, 7, 7, 7, 7, 7, 7, 7, 7, 7, 7, 7, 7, 7, 7, 7, 7, 7, 7, 7, 7, 7, 7, 7, 7, 7, 7, 7, 7, 7, 7, 7, 7, 7, 7, 7, 7, 7, 7, 7, 8, 8, 8, 8, 8, 8, 8, 8, 8, 8, 8, 8, 8, 8, 8, 8, 8, 8, 8, 8, 8, 8, 8, 8, 8, 8, 8, 8, 8, 8, 8, 8, 8, 8, 8, 8, 8, 8, 8, 8, 8, 8, 8, 8, 8, 8, 8, 8, 8, 8, 8, 8, 8, 8, 8, 8, 8, 8, 8, 8, 8, 8, 8, 8, 8, 8, 8, 8, 8, 8, 8, 8, 8, 8, 8, 8, 8, 8, 8, 8, 8, 8, 8, 8, 8, 8, 8, 8, 8, 8, 8, 8, 8, 8, 8, 8, 8, 8, 8, 8, 8, 8, 8, 8, 8, 8, 8, 8, 8, 8, 8, 8, 8, 8, 8, 8, 8, 8, 8, 8, 8, 8, 8, 8, 8, 8, 8, 8]⟩ : ByteArray) (ji10)
       replace p13 := eq_true p13
       replace q13 := eq_true q13
       go_wp2
       go_ret
       exact ⟨by first | rfl | (simp; done) | (simp only [← hji10] <;> (first | rfl | simp)) | (simp [*]; done), dr⟩
      ·rw [if_neg c12] at H
       exact absurd H (by simp)
     ·rw [if_neg c11] at H
      exact absurd H (by simp)
   ·replace H := ige H
    rcases H with ⟨c14b0, H⟩ | ⟨c14b0, H⟩
    ·obtain ⟨ji15, hji15⟩ : ∃ j_ : Int, ((x0_1 / 256) % 256) = j_ := ⟨_, rfl⟩
     first | rw [hji15] at H | simp only [hji15] at H
     by_cases c16 : 0 ≤ (ji15)
     ·rw [if_pos c16] at H
      have c16b0 : decide (0 ≤ (ji15)) = true := decide_eq_true c16
      clear c16
      by_cases c17 : (ji15) < 256
      ·rw [if_pos c17] at H
       have c17b0 : decide ((ji15) < 256) = true := decide_eq_true c17
       clear c17
       obtain rfl := Option.some.inj H
       have p18 : 0 ≤ ((ji15) : Int) := of_decide_eq_true as_
       have q18 : (ji15) < (256 : Int) := of_decide_eq_true as_
       have hx18 := bt_at (⟨#[0, 1, 2, 2, 3, 3, 3, 3, 4, 4, 4, 4, 4, 4, 4, 4, 5, 5, 5, 5, 5, 5, 5, 5, 5, 5, 5, 5, 5, 5, 5, 5, 6, 6, 6, 6, 6, 6, 6, 6, 6, 6, 6, 6, 6, 6, 6, 6, 6, 6, 6, 6, 6, 6, 6, 6, 6, 6, 6, 6, 6, 6, 6, 6, 7, 7, 7, 7, 7, 7, 7, 7, 7, 7, 7, 7, 7, 7, 7, 7, 7, 7, 7, 7, 7, 7, 7, 7, 7, 7, 7, 7, 7, 7, 7, 7, 7, 7, 7, 7, 7, 7, 7, 7, 7, 7, 7, 7, 7, 7, 7, 7, 7, 7, 7, 7, 7, 7, 7, 7, 7, 7, 7, 7, 7, 7, 7, 7, 8, 8, 8, 8, 8, 8, 8, 8, 8, 8, 8, 8, 8, 8, 8, 8, 8, 8, 8, 8, 8, 8, 8, 8, 8, 8, 8, 8, 8, 8, 8, 8, 8, 8, 8, 8, 8, 8, 8, 8, 8, 8, 8, 8, 8, 8, 8, 8, 8, 8, 8, 8, 8, 8, 8, 8, 8, 8, 8, 8, 8, 8, 8, 8, 8, 8, 8, 8, 8, 8, 8, 8, 8, 8, 8, 8, 8, 8, 8, 8, 8, 8, 8, 8, 8, 8, 8, 8, 8, 8, 8, 8, 8, 8, 8, 8, 8, 8, 8, 8, 8, 8, 8, 8, 8, 8, 8, 8, 8, 8, 8, 8, 8, 8, 8, 8, 8, 8, 8, 8, 8, 8, 8, 8, 8, 8, 8, 8]⟩ : ByteArray) (ji15)
       replace p18 := eq_true p18
       replace q18 := eq_true q18
       go_wp2
       go_ret
       exact ⟨by first | rfl | (simp; done) | (simp only [← hji15] <;> (first | rfl | simp)) | (simp [*]; done), dr⟩
      ·rw [if_neg c17] at H
       exact absurd H (by simp)
     ·rw [if_neg c16] at H
      exact absurd H (by simp)
    ·obtain ⟨ji19, hji19⟩ : ∃ j_ : Int, ((x0_1) % 256) = j_ := ⟨_, rfl⟩
     first | rw [hji19] at H | simp only [hji19] at H
     by_cases c20 : 0 ≤ (ji19)
     ·rw [if_pos c20] at H
      have c20b0 : decide (0 ≤ (ji19)) = true := decide_eq_true c20
      clear c20
      by_cases c21 : (ji19) < 256
      ·rw [if_pos c21] at H
       have c21b0 : decide ((ji19) < 256) = true := decide_eq_true c21
       clear c21
       obtain rfl := Option.some.inj H
       have p22 : 0 ≤ ((ji19) : Int) := of_decide_eq_true as_
       have q22 : (ji19) < (256 : Int) := of_decide_eq_true as_
       have hx22 := bt_at (⟨#[0, 1, 2, 2, 3, 3, 3, 3, 4, 4, 4, 4, 4, 4, 4, 4, 5, 5, 5, 5, 5, 5, 5, 5, 5, 5, 5, 5, 5, 5, 5, 5, 6, 6, 6, 6, 6, 6, 6, 6, 6, 6, 6, 6, 6, 6, 6, 6, 6, 6, 6, 6, 6, 6, 6, 6, 6, 6, 6, 6, 6, 6, 6, 6, 7, 7, 7, 7, 7, 7, 7, 7, 7, 7, 7, 7, 7, 7, 7, 7, 7, 7, 7, 7, 7, 7, 7, 7, 7, 7, 7, 7, 7, 7, 7, 7, 7, 7, 7, 7, 7, 7, 7, 7, 7, 7, 7, 7, 7, 7, 7, 7, 7, 7, 7, 7, 7, 7, 7, 7, 7, 7, 7, 7, 7, 7, 7, 7, 8, 8, 8, 8, 8, 8, 8, 8, 8, 8, 8, 8, 8, 8, 8, 8, 8, 8, 8, 8, 8, 8, 8, 8, 8, 8, 8, 8, 8, 8, 8, 8, 8, 8, 8, 8, 8, 8, 8, 8, 8, 8, 8, 8, 8, 8, 8, 8, 8, 8, 8, 8, 8, 8, 8, 8, 8, 8, 8, 8, 8, 8, 8, 8, 8, 8, 8, 8, 8, 8, 8, 8, 8, 8, 8, 8, 8, 8, 8, 8, 8, 8, 8, 8, 8, 8, 8, 8, 8, 8, 8, 8, 8, 8, 8, 8, 8, 8, 8, 8, 8, 8, 8, 8, 8, 8, 8, 8, 8, 8, 8, 8, 8, 8, 8, 8, 8, 8, 8, 8, 8, 8, 8, 8, 8, 8, 8, 8]⟩ : ByteArray) (ji19)
       replace p22 := eq_true p22
       replace q22 := eq_true q22
       go_wp2
       go_ret
       exact ⟨by first | rfl | (simp; done) | (simp only [← hji19] <;> (first | rfl | simp)) | (simp [*]; done), dr⟩
      ·rw [if_neg c21] at H
       exact absurd H (by simp)
     ·rw [if_neg c20] at H
      exact absurd H (by simp)

/-! ### bits_Len: function 105 -/
def bits_Len.f (k : Nat) (a0 : Int) : Option (Int) := (bits_Len64.f k a0).bind fun t543 => (some t543)
theorem bits_Len.mono : ∀ a0 k, LeO (bits_Len.f k a0) (bits_Len.f (k + 1) a0) := by
 intro a0 k
 unfold bits_Len.f
 repeat' first
  | (with_reducible first | exact bits_Len64.mono .. | exact LeO.refl _ | exact LeO.none _ | refine LeO.ite ?_ ?_ | refine LeO.bind ?_ (fun _ => ?_))
  | exact LeO.none _ | refine LeO.ite ?_ ?_ | refine LeO.bind ?_ (fun _ => ?_)
set_option maxHeartbeats 8000000 in
set_option maxRecDepth 100000 in
theorem bits_Len.calls (k : Nat) (a0 : Int) (r : Int) (w : World) (h : bits_Len.f k a0 = some r) :
  Calls Tryz.prog 105 #[.int .u64 a0] w fun e w' => e = .returned (.int .i64 r) ∧ Drawn0 w w' := by
 unfold bits_Len.f at h
 have H := h
 clear h
 replace H := bn H
 obtain ⟨t543, A2, H⟩ := H
 try dsimp only at H
 obtain rfl := Option.some.inj H
 go_enter Tryz.func105, Tryz.ntmps105
 go_wp2_with (first | ((with_reducible refine gf 110 ?_); refine gc Tryz.func110 (some 7) (bits_Len64.calls _ _ _ _ A2.out) ?_; rintro e w' ⟨rfl, ⟨nd, rfl⟩⟩; refine ⟨_, rfl, ?_⟩))
 go_ret
 exact ⟨ev, dr⟩

/-! ### impl_ClassOf: function 95 -/
def impl_ClassOf.f (k : Nat) (a0 : Int) : Option (Int) := (impl_within.f a0 1 16).bind fun t544 => (if t544 = true then ((bits_Len.f k (IntKind.u64.wrap (wrap64 (a0 - 1)))).bind fun t545 => (some t545)) else (some (-1)))
theorem impl_ClassOf.mono : ∀ a0 k, LeO (impl_ClassOf.f k a0) (impl_ClassOf.f (k + 1) a0) := by
 intro a0 k
 unfold impl_ClassOf.f
 repeat' first
  | (with_reducible first | exact bits_Len.mono .. | exact LeO.refl _ | exact LeO.none _ | refine LeO.ite ?_ ?_ | refine LeO.bind ?_ (fun _ => ?_))
  | exact LeO.none _ | refine LeO.ite ?_ ?_ | refine LeO.bind ?_ (fun _ => ?_)
set_option maxHeartbeats 8000000 in
set_option maxRecDepth 100000 in
theorem impl_ClassOf.calls (k : Nat) (a0 : Int) (r : Int) (w : World) (h : impl_ClassOf.f k a0 = some r) :
  Calls Tryz.prog 95 #[.int .i64 a0] w fun e w' => e = .returned (.int .i64 r) ∧ Drawn0 w w' := by
 unfold impl_ClassOf.f at h
 have H := h
 clear h
 replace H := bn H
 obtain ⟨t544, A2, H⟩ := H
 try dsimp only at H
 have HU3 := Aside0.mk H
 clear H
 go_enter Tryz.func95, Tryz.ntmps95
 go_upto_if 5 with (first | ((with_reducible refine gf 21 ?_); refine gc Tryz.func21 (some 4) (impl_within.calls _ _ _ _ _ A2.out) ?_; rintro e w' ⟨rfl, ⟨nd, rfl⟩⟩; refine ⟨_, rfl, ?_⟩))
 (try refine ap ?_)
 have H := HU3.out
 clear HU3
 replace H := ib H
 rcases H with ⟨rfl, H⟩ | ⟨rfl, H⟩
 ·(try simp only [Bool.not_true, Bool.not_false])
  replace H := bn H
  obtain ⟨t545, A5, H⟩ := H
  try dsimp only at H
  obtain rfl := Option.some.inj H
  go_wp2_with (first | ((with_reducible refine gf 105 ?_); refine gc Tryz.func105 (some 9) (bits_Len.calls _ _ _ _ A5.out) ?_; rintro e w' ⟨rfl, ⟨nd, rfl⟩⟩; refine ⟨_, rfl, ?_⟩))
  go_ret
  exact ⟨ev, dr⟩
 ·(try simp only [Bool.not_true, Bool.not_false])
  obtain rfl := Option.some.inj H
  go_wp2
  go_ret
  exact ⟨ev, dr⟩

/-! ### impl_ChunksFor: function 96 -/
def impl_ChunksFor.f (a0 : Int) : Option (Int) := (impl_within.f a0 17 256).bind fun t550 => (if t550 = true then (some (wrap64 (Int.tdiv (wrap64 ((wrap64 (a0 + 16)) - 1)) 16))) else (some 0))
set_option maxHeartbeats 8000000 in
set_option maxRecDepth 100000 in
theorem impl_ChunksFor.calls (a0 : Int) (r : Int) (w : World) (h : impl_ChunksFor.f a0 = some r) :
  Calls Tryz.prog 96 #[.int .i64 a0] w fun e w' => e = .returned (.int .i64 r) ∧ Drawn0 w w' := by
 unfold impl_ChunksFor.f at h
 have H := h
 clear h
 replace H := bn H
 obtain ⟨t550, A2, H⟩ := H
 try dsimp only at H
 have HU3 := Aside0.mk H
 clear H
 go_enter Tryz.func96, Tryz.ntmps96
 go_upto_if 5 with (first | ((with_reducible refine gf 21 ?_); refine gc Tryz.func21 (some 4) (impl_within.calls _ _ _ _ _ A2.out) ?_; rintro e w' ⟨rfl, ⟨nd, rfl⟩⟩; refine ⟨_, rfl, ?_⟩))
 (try refine ap ?_)
 have H := HU3.out
 clear HU3
 replace H := ib H
 rcases H with ⟨rfl, H⟩ | ⟨rfl, H⟩
 ·(try simp only [Bool.not_true, Bool.not_false])
  obtain rfl := Option.some.inj H
  go_wp2
  go_ret
  exact ⟨ev, dr⟩
 ·(try simp only [Bool.not_true, Bool.not_false])
  obtain rfl := Option.some.inj H
  go_wp2
  go_ret
  exact ⟨ev, dr⟩

end Go.Proofs.YtobboonnfocalaaGreatDoor.PG1
