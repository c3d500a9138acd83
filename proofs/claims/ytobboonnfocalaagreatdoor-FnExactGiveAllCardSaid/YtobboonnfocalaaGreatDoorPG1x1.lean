/- What functions of the program compute, each as a Lean function, and that the run comes to just that. Conditions: none. -/
import Derived.Test.YtobboonnfocalaaGreatDoorTG1
import Derived.Test.YtobboonnfocalaaGreatDoorT2G1
import Derived.Test.YtobboonnfocalaaGreatDoorPG1x0
namespace Go.Proofs.YtobboonnfocalaaGreatDoor.PG1
open Go.RowKit Go.Proofs.YtobboonnfocalaaGreatDoorW.PrintWords Go.Proofs.YtobboonnfocalaaGreatDoorW.PrintLast Go.Proofs.YtobboonnfocalaaGreatDoorW.PrintMore Go.Proofs.YtobboonnfocalaaGreatDoor.T
attribute [local go_sem] max2_int min2_int max_two min_two max_three min_three max_four min_four   -- for this text's walks alone
set_option linter.unusedVariables false
set_option linter.unusedSimpArgs false

/-! ### spec_l01Word: function 106 -/
def spec_l01Word.l0 : Nat → List Int → Int → Int → Option (Int)
 | 0, _, _, _ => none
 | k + 1, x0, x3, x4 => if x4 ≥ 0 then (if 0 ≤ x4 then (if x4 < (x0.length : Int) then (spec_l01Word.l0 k x0 ((((2 * x3) % 4294967296) + ((rd x0 x4) % 4294967296)) % 4294967296) (wrap64 (x4 - 1))) else (none)) else (none)) else (some x3)
def spec_l01Word.f (k : Nat) (l0 : List Int) : Option (Int) := spec_l01Word.l0 k l0 0 (wrap64 ((l0.length : Int) - 1))
theorem spec_l01Word.mono_l : ∀ k, (∀ y0 y1 y2, LeO (spec_l01Word.l0 k y0 y1 y2) (spec_l01Word.l0 (k + 1) y0 y1 y2))
 | 0 => fun _ _ _ r h => by simp [spec_l01Word.l0] at h
 | k + 1 => by
  have ih0 := spec_l01Word.mono_l k
  ·intro y0 y1 y2
   unfold spec_l01Word.l0
   repeat' first
    | (with_reducible first | exact ih0 .. | exact LeO.refl _ | exact LeO.none _ | refine LeO.ite ?_ ?_ | refine LeO.bind ?_ (fun _ => ?_))
    | exact LeO.none _ | refine LeO.ite ?_ ?_ | refine LeO.bind ?_ (fun _ => ?_)
theorem spec_l01Word.mono : ∀ a0 k, LeO (spec_l01Word.f k a0) (spec_l01Word.f (k + 1) a0) := by
 intro a0 k
 have ih0 := spec_l01Word.mono_l k
 unfold spec_l01Word.f
 repeat' first
  | (with_reducible first | exact ih0 .. | exact LeO.refl _ | exact LeO.none _ | refine LeO.ite ?_ ?_ | refine LeO.bind ?_ (fun _ => ?_))
  | exact LeO.none _ | refine LeO.ite ?_ ?_ | refine LeO.bind ?_ (fun _ => ?_)
set_option maxHeartbeats 2000000 in
set_option maxRecDepth 100000 in
theorem spec_l01Word.calls (k : Nat) (A0 : Option Addr) (c0 : Nat) (l0 : List Int) (r : Int) (w : World) (hr0 : Kd.C (Kd.int .i64) w A0 l0.length l0) (hc0 : l0.length ≤ c0) (h : spec_l01Word.f k l0 = some r) :
  Calls Tryz.prog 106 #[.slice A0 l0.length c0] w fun e w' => e = .returned (.int .u32 r) ∧ Drawn0 w w' := by
 have HR0 := Aside0.mk hr0
 have HC0 := Aside0.mk hc0
 clear hr0 hc0
 unfold spec_l01Word.f at h
 have H := h
 clear h
 have H' := Aside0.mk H
 clear H
 go_enter Tryz.func106, Tryz.ntmps106
 go_wp2
 go_loopg [3, 4] k (fun kq v3 v4 w' => ∃ (x3_1 : Int) (x4_1 : Int), v3 = .int .u32 x3_1 ∧ v4 = .int .i64 x4_1 ∧ Aside0 (spec_l01Word.l0 kq l0 x3_1 x4_1 = some r) ∧ Aside0 (kq ≤ k) ∧ Drawn0 w w')
 case atStart => exact ⟨(0), (wrap64 ((l0.length : Int) - 1)), ev, ev, H', ⟨Nat.le_refl _⟩, dr⟩
 case round =>
  clear H'
  obtain ⟨x3_1, x4_1, rfl, rfl, HA, HK1, ⟨m1, rfl⟩⟩ := hrel
  cases gk with
  | zero => exact absurd HA.out (by simp [spec_l01Word.l0])
  | succ k1 =>
   have H := HA.out
   clear HA
   simp only [spec_l01Word.l0] at H
   replace H := ige H
   rcases H with ⟨c2b0, H⟩ | ⟨c2b0, H⟩
   ·by_cases c3 : 0 ≤ x4_1
    ·rw [if_pos c3] at H
     have c3b0 : decide (0 ≤ x4_1) = true := decide_eq_true c3
     clear c3
     by_cases c4 : x4_1 < (l0.length : Int)
     ·rw [if_pos c4] at H
      have c4b0 : decide (x4_1 < (l0.length : Int)) = true := decide_eq_true c4
      clear c4
      have H' := Aside0.mk H
      clear H
      have p194 : 0 ≤ (x4_1 : Int) := of_decide_eq_true as_
      have q194 : x4_1 < (l0.length : Int) := of_decide_eq_true as_
      obtain ⟨ad194, e194, hx194_0⟩ := Kd.at_int HR0.out x4_1 p194 q194
      cases e194
      replace p194 := eq_true p194
      replace q194 := eq_true q194
      go_wp2
      go_roundg k1
      case measure => have := HK1.out; omega
      case rel => exact ⟨((((2 * x3_1) % 4294967296) + ((rd l0 x4_1) % 4294967296)) % 4294967296), (wrap64 (x4_1 - 1)), ev, ev, H', ⟨oa HK1⟩, dr⟩
     ·rw [if_neg c4] at H
      exact absurd H (by simp)
    ·rw [if_neg c3] at H
     exact absurd H (by simp)
   ·obtain rfl := Option.some.inj H
    go_wp2
    go_ret
    exact ⟨ev, dr⟩

/-! ### spec_BitsOf: function 99 -/
def spec_BitsOf.l0 : Nat → List Int → List Int → Int → Option (Int × Bool)
 | 0, _, _, _ => none
 | k + 1, x0, x4, x5 => if x5 < (x0.length : Int) then (if 0 ≤ x5 then (if (rd x0 x5) < 0 then (some (0, false)) else (if (rd x0 x5) > 31 then (some (0, false)) else (if 0 ≤ (rd x0 x5) then (if (rd x0 x5) < (x4.length : Int) then (if (rd x4 (rd x0 x5)) = 1 then (some (0, false)) else (spec_BitsOf.l0 k x0 (x4.set ((rd x0 x5) : Int).toNat 1) (wrap64 (x5 + 1)))) else (none)) else (none)))) else (none)) else ((spec_l01Word.f k x4).bind fun t204 => (some (t204, true)))
def spec_BitsOf.f (k : Nat) (l0 : List Int) : Option (Int × Bool) := if 32 ≤ 35184372088832 then (spec_BitsOf.l0 k l0 (List.replicate 32 0) 0) else (none)
theorem spec_BitsOf.mono_l : ∀ k, (∀ y0 y1 y2, LeO (spec_BitsOf.l0 k y0 y1 y2) (spec_BitsOf.l0 (k + 1) y0 y1 y2))
 | 0 => fun _ _ _ r h => by simp [spec_BitsOf.l0] at h
 | k + 1 => by
  have ih0 := spec_BitsOf.mono_l k
  ·intro y0 y1 y2
   unfold spec_BitsOf.l0
   repeat' first
    | (with_reducible first | exact ih0 .. | exact spec_l01Word.mono .. | exact LeO.refl _ | exact LeO.none _ | refine LeO.ite ?_ ?_ | refine LeO.bind ?_ (fun _ => ?_))
    | exact LeO.none _ | refine LeO.ite ?_ ?_ | refine LeO.bind ?_ (fun _ => ?_)
theorem spec_BitsOf.mono : ∀ a0 k, LeO (spec_BitsOf.f k a0) (spec_BitsOf.f (k + 1) a0) := by
 intro a0 k
 have ih0 := spec_BitsOf.mono_l k
 unfold spec_BitsOf.f
 repeat' first
  | (with_reducible first | exact ih0 .. | exact spec_l01Word.mono .. | exact LeO.refl _ | exact LeO.none _ | refine LeO.ite ?_ ?_ | refine LeO.bind ?_ (fun _ => ?_))
  | exact LeO.none _ | refine LeO.ite ?_ ?_ | refine LeO.bind ?_ (fun _ => ?_)
set_option maxHeartbeats 2000000 in
set_option maxRecDepth 100000 in
theorem spec_BitsOf.calls (k : Nat) (A0 : Option Addr) (c0 : Nat) (l0 : List Int) (r1 : Int) (r2 : Bool) (w : World) (hr0 : Kd.C (Kd.int .i64) w A0 l0.length l0) (hc0 : l0.length ≤ c0) (h : spec_BitsOf.f k l0 = some (r1, r2)) :
  Calls Tryz.prog 99 #[.slice A0 l0.length c0] w fun e w' => e = .returned (.tuple #[.int .u32 r1, .bool r2]) ∧ Below w.heap.size w w' := by
 have HR0 := Aside0.mk hr0
 have HC0 := Aside0.mk hc0
 clear hr0 hc0
 have HB := Aside0.mk (Below.refl w.heap.size w)
 unfold spec_BitsOf.f at h
 have H := h
 clear h
 by_cases c2 : 32 ≤ 35184372088832
 ·rw [if_pos c2] at H
  have c2b0 := eq_true c2
  have c2b1 : decide (32 ≤ 35184372088832) = true := decide_eq_true c2
  clear c2
  obtain ⟨y195, hy195⟩ : ∃ y_ : List Int, y_ = (List.replicate 32 0) := ⟨_, rfl⟩
  rw [← hy195] at H
  try with_reducible replace H := bs H
  have Ny195 := Aside0.mk hy195
  clear hy195
  have H' := Aside0.mk H
  clear H
  go_enter Tryz.func99, Tryz.ntmps99
  go_wp2_with (first | ((with_reducible refine gate_dst (N := 6) rfl ?_); refine Kd.R_make (Kd.int .i64) _ 3 rfl (N := 6) rfl 29 _ _ rfl 32 rfl rfl Tryz.underlying29 (.int .i64 0) 8 info3 rfl (by decide) (by omega) 0 (ok := fun _ => True) (okp := fun _ => True) rfl (fun _ hk => hk) trivial (by omega) (by omega) (Below.refl _ _) (Nat.le_refl _) ?_; intro v196 w3 ho4 hb hg_ hnew_; clear hg_ hnew_; (first | rw [← Ny195.out] at ho4 | (simp only [Int.reduceToNat] at ho4; rw [← Ny195.out] at ho4)); have HO197 := Aside0.mk (Kd.R_lower ho4 (below_size bw)); replace HB := hs hb; clear hb ho4))
  go_loopg [5] k (fun kq v5 w' => ∃ (x4_1 : List Int) (x5_1 : Int), v5 = .int .i64 x5_1 ∧ Aside0 (spec_BitsOf.l0 kq l0 x4_1 x5_1 = some (r1, r2)) ∧ Aside0 (kq ≤ k) ∧ Aside0 (Kd.R (Kd.int .i64) 3 w' w.heap.size (fun _ => True) v196 x4_1) ∧ Aside0 (Below w.heap.size w w'))
  case atStart => exact ⟨(y195), (0), ev, H', ⟨Nat.le_refl _⟩, ⟨ro HO197⟩, ⟨bw⟩⟩
  case round =>
   clear H'
   try clear c2
   try clear c2b0
   try clear c2b1
   obtain ⟨x4_1, x5_1, rfl, HA, HK1, HO_4, HB⟩ := hrel
   cases gk with
   | zero => exact absurd HA.out (by simp [spec_BitsOf.l0])
   | succ k1 =>
    have H := HA.out
    clear HA
    simp only [spec_BitsOf.l0] at H
    replace H := ilt H
    rcases H with ⟨c5b0, H⟩ | ⟨c5b0, H⟩
    ·by_cases c6 : 0 ≤ x5_1
     ·rw [if_pos c6] at H
      have c6b0 : decide (0 ≤ x5_1) = true := decide_eq_true c6
      clear c6
      replace H := ilt H
      rcases H with ⟨c7b0, H⟩ | ⟨c7b0, H⟩
      ·simp only [Option.some.injEq, Prod.mk.injEq] at H
       obtain ⟨rfl, rfl⟩ := H
       have p198 : 0 ≤ (x5_1 : Int) := of_decide_eq_true as_
       have q198 : x5_1 < (l0.length : Int) := of_decide_eq_true as_
       obtain ⟨ad198, e198, hx198_0⟩ := Kd.at_int HR0.out x5_1 p198 q198
       cases e198
       replace hx198_0 := cl HB hx198_0
       replace p198 := eq_true p198
       replace q198 := eq_true q198
       go_wp2
       go_ret2
       exact ⟨rt, bw⟩
      ·replace H := igt H
       rcases H with ⟨c8b0, H⟩ | ⟨c8b0, H⟩
       ·simp only [Option.some.injEq, Prod.mk.injEq] at H
        obtain ⟨rfl, rfl⟩ := H
        have p198 : 0 ≤ (x5_1 : Int) := of_decide_eq_true as_
        have q198 : x5_1 < (l0.length : Int) := of_decide_eq_true as_
        obtain ⟨ad198, e198, hx198_0⟩ := Kd.at_int HR0.out x5_1 p198 q198
        cases e198
        replace hx198_0 := cl HB hx198_0
        replace p198 := eq_true p198
        replace q198 := eq_true q198
        have p199 : 0 ≤ (x5_1 : Int) := of_decide_eq_true as_
        have q199 : x5_1 < (l0.length : Int) := of_decide_eq_true as_
        obtain ⟨ad199, e199, hx199_0⟩ := Kd.at_int HR0.out x5_1 p199 q199
        obtain rfl : ad198 = ad199 := (by injection e199)
        replace hx199_0 := cl HB hx199_0
        replace p199 := eq_true p199
        replace q199 := eq_true q199
        go_wp2
        go_ret2
        exact ⟨rt, bw⟩
       ·by_cases c9 : 0 ≤ (rd l0 x5_1)
        ·rw [if_pos c9] at H
         have c9b0 : decide (0 ≤ (rd l0 x5_1)) = true := decide_eq_true c9
         clear c9
         by_cases c10 : (rd l0 x5_1) < (x4_1.length : Int)
         ·rw [if_pos c10] at H
          have c10b0 : decide ((rd l0 x5_1) < (x4_1.length : Int)) = true := decide_eq_true c10
          clear c10
          replace H := ieq H
          rcases H with ⟨c11b0, c11b1, H⟩ | ⟨c11, c11b0, c11b1, H⟩
          ·simp only [Option.some.injEq, Prod.mk.injEq] at H
           obtain ⟨rfl, rfl⟩ := H
           have p198 : 0 ≤ (x5_1 : Int) := of_decide_eq_true as_
           have q198 : x5_1 < (l0.length : Int) := of_decide_eq_true as_
           obtain ⟨ad198, e198, hx198_0⟩ := Kd.at_int HR0.out x5_1 p198 q198
           cases e198
           replace hx198_0 := cl HB hx198_0
           replace p198 := eq_true p198
           replace q198 := eq_true q198
           have p199 : 0 ≤ (x5_1 : Int) := of_decide_eq_true as_
           have q199 : x5_1 < (l0.length : Int) := of_decide_eq_true as_
           obtain ⟨ad199, e199, hx199_0⟩ := Kd.at_int HR0.out x5_1 p199 q199
           obtain rfl : ad198 = ad199 := (by injection e199)
           replace hx199_0 := cl HB hx199_0
           replace p199 := eq_true p199
           replace q199 := eq_true q199
           have p200 : 0 ≤ (x5_1 : Int) := of_decide_eq_true as_
           have q200 : x5_1 < (l0.length : Int) := of_decide_eq_true as_
           obtain ⟨ad200, e200, hx200_0⟩ := Kd.at_int HR0.out x5_1 p200 q200
           obtain rfl : ad198 = ad200 := (by injection e200)
           replace hx200_0 := cl HB hx200_0
           replace p200 := eq_true p200
           replace q200 := eq_true q200
           obtain ⟨Ao12, co12, eo12⟩ := Kd.R_slice HO_4.out
           subst eo12
           have p201 : 0 ≤ ((rd l0 x5_1) : Int) := of_decide_eq_true as_
           have q201 : (rd l0 x5_1) < (x4_1.length : Int) := of_decide_eq_true as_
           obtain ⟨ad201, e201, hx201_0⟩ := Kd.at_int (Kd.R_reads' HO_4.out).2.2 (rd l0 x5_1) p201 q201
           cases e201
           replace p201 := eq_true p201
           replace q201 := eq_true q201
           go_wp2
           go_ret2
           exact ⟨rt, bw⟩
          ·obtain ⟨y203, hy203⟩ : ∃ y_ : List Int, y_ = (x4_1.set ((rd l0 x5_1) : Int).toNat 1) := ⟨_, rfl⟩
           rw [← hy203] at H
           try with_reducible replace H := bs H
           have Ny203 := Aside0.mk hy203
           clear hy203
           have H' := Aside0.mk H
           clear H
           have p198 : 0 ≤ (x5_1 : Int) := of_decide_eq_true as_
           have q198 : x5_1 < (l0.length : Int) := of_decide_eq_true as_
           obtain ⟨ad198, e198, hx198_0⟩ := Kd.at_int HR0.out x5_1 p198 q198
           cases e198
           replace hx198_0 := cl HB hx198_0
           replace p198 := eq_true p198
           replace q198 := eq_true q198
           have p199 : 0 ≤ (x5_1 : Int) := of_decide_eq_true as_
           have q199 : x5_1 < (l0.length : Int) := of_decide_eq_true as_
           obtain ⟨ad199, e199, hx199_0⟩ := Kd.at_int HR0.out x5_1 p199 q199
           obtain rfl : ad198 = ad199 := (by injection e199)
           replace hx199_0 := cl HB hx199_0
           replace p199 := eq_true p199
           replace q199 := eq_true q199
           have p200 : 0 ≤ (x5_1 : Int) := of_decide_eq_true as_
           have q200 : x5_1 < (l0.length : Int) := of_decide_eq_true as_
           obtain ⟨ad200, e200, hx200_0⟩ := Kd.at_int HR0.out x5_1 p200 q200
           obtain rfl : ad198 = ad200 := (by injection e200)
           replace hx200_0 := cl HB hx200_0
           replace p200 := eq_true p200
           replace q200 := eq_true q200
           obtain ⟨Ao14, co14, eo14⟩ := Kd.R_slice HO_4.out
           subst eo14
           have p201 : 0 ≤ ((rd l0 x5_1) : Int) := of_decide_eq_true as_
           have q201 : (rd l0 x5_1) < (x4_1.length : Int) := of_decide_eq_true as_
           obtain ⟨ad201, e201, hx201_0⟩ := Kd.at_int (Kd.R_reads' HO_4.out).2.2 (rd l0 x5_1) p201 q201
           cases e201
           replace p201 := eq_true p201
           replace q201 := eq_true q201
           have p202 : 0 ≤ (x5_1 : Int) := of_decide_eq_true as_
           have q202 : x5_1 < (l0.length : Int) := of_decide_eq_true as_
           obtain ⟨ad202, e202, hx202_0⟩ := Kd.at_int HR0.out x5_1 p202 q202
           obtain rfl : ad198 = ad202 := (by injection e202)
           replace hx202_0 := cl HB hx202_0
           replace p202 := eq_true p202
           replace q202 := eq_true q202
           have p13 : 0 ≤ ((rd l0 x5_1) : Int) := of_decide_eq_true as_
           have q13 : ((rd l0 x5_1) : Int) < ((x4_1.length : Int) : Int) := of_decide_eq_true as_
           obtain ⟨go13, co13, eo13, gb13, gl13, cl13, HG13⟩ := Kd.R_form HO_4.out (by omega)
           (first | cases eo13 | (injection eo13 with ea_ en_ ec_; (first | subst ea_ | (injection ea_ with ea_; subst ea_)); subst ec_; clear en_))
           have GB13 := Aside0.mk gb13
           have GG13 := Aside0.mk HG13
           clear gb13 gl13 HG13
           (first | simp only [add_plain] at hx201_0 | skip)
           obtain ⟨hx13_0, hf13_0⟩ := Kd.R_celln 0 HO_4.out ((rd l0 x5_1) : Int) p13 q13
           replace p13 := eq_true p13
           replace q13 := eq_true q13
           have HP15 := Kd.R_putg HO_4.out ((rd l0 x5_1) : Int) 1
           go_wp2_with (first | ((with_reducible refine gate_store (t := 3) (p := 40) rfl ?_); refine store_event (t := 3) (p := 40) (v := ?vo_w16) (w1 := (wr.setCell ⟨go13, ((rd l0 x5_1) : Int).toNat, none⟩ (.int .i64 1))) ?hg ?ho ?hn ?hr ?_; (case ho => rfl); (case hg => rfl); (case hn => rfl); (case hr => first | (go_simp; done) | (go_simp; rfl)); intro w16 hw; have hg : wr.grownBy w16 (some go13) := (by rw [hw]; exact HP15.2); have hp_ : Kd.R (Kd.int .i64) 3 w16 w.heap.size (fun _ => True) (.slice (some ⟨go13, 0, none⟩) x4_1.length co14) y203 := (by rw [hw, Ny203.out]; exact HP15.1); clear HP15; replace HO_4 := Aside0.mk (hp_); replace HB := Aside0.mk ((by rw [hw]; exact below_set (HB.out) GB13.out : Below w.heap.size w w16)); clear hg hw hp_))
           go_roundg k1
           case measure => have := HK1.out; omega
           case rel => exact ⟨(y203), (wrap64 (x5_1 + 1)), ev, H', ⟨oa HK1⟩, ⟨ro HO_4⟩, ⟨bw⟩⟩
         ·rw [if_neg c10] at H
          exact absurd H (by simp)
        ·rw [if_neg c9] at H
         exact absurd H (by simp)
     ·rw [if_neg c6] at H
      exact absurd H (by simp)
    ·replace H := bn H
     obtain ⟨t204, A17, H⟩ := H
     try dsimp only at H
     simp only [Option.some.injEq, Prod.mk.injEq] at H
     obtain ⟨rfl, rfl⟩ := H
     obtain ⟨Ao18, co18, eo18⟩ := Kd.R_slice HO_4.out
     subst eo18
     go_wp2_with (first | ((with_reducible refine gf 106 ?_); refine gc Tryz.func106 (some 42) (spec_l01Word.calls _ Ao18 co18 _ _ _ (cr HO_4) ((Kd.R_reads' HO_4.out).2.1) A17.out) ?_; rintro e w' ⟨rfl, ⟨nd, rfl⟩⟩; refine ⟨_, rfl, ?_⟩))
     go_ret2
     exact ⟨rt, bw⟩
 ·rw [if_neg c2] at H
  exact absurd H (by simp)

/-! ### spec_CtlPack: function 100 -/
def spec_CtlPack.f (k : Nat) (a0_0 : Int) (a0_1 : Int) (a0_2 : Int) (a0_3 : Int) : Option (Int × Bool) := (spec_CtlOk.f k a0_0 a0_1 a0_2 a0_3).bind fun t206 => (if t206 = true then (some ((wrap64 ((wrap64 ((wrap64 ((wrap64 (a0_2)) + (wrap64 (65536 * a0_1)))) + (wrap64 (1048576 * a0_0)))) + (wrap64 (16777216 * a0_3)))) % 4294967296, true)) else (some (0, false)))
theorem spec_CtlPack.mono : ∀ a0 a1 a2 a3 k, LeO (spec_CtlPack.f k a0 a1 a2 a3) (spec_CtlPack.f (k + 1) a0 a1 a2 a3) := by
 intro a0 a1 a2 a3 k
 unfold spec_CtlPack.f
 repeat' first
  | (with_reducible first | exact spec_CtlOk.mono .. | exact LeO.refl _ | exact LeO.none _ | refine LeO.ite ?_ ?_ | refine LeO.bind ?_ (fun _ => ?_))
  | exact LeO.none _ | refine LeO.ite ?_ ?_ | refine LeO.bind ?_ (fun _ => ?_)
set_option maxHeartbeats 2000000 in
set_option maxRecDepth 100000 in
theorem spec_CtlPack.calls (k : Nat) (a0_0 : Int) (a0_1 : Int) (a0_2 : Int) (a0_3 : Int) (r1 : Int) (r2 : Bool) (w : World) (h : spec_CtlPack.f k a0_0 a0_1 a0_2 a0_3 = some (r1, r2)) :
  Calls Tryz.prog 100 #[.agg #[.int .i64 a0_0, .int .i64 a0_1, .int .u32 a0_2, .int .i64 a0_3]] w fun e w' => e = .returned (.tuple #[.int .u32 r1, .bool r2]) ∧ Below w.heap.size w w' := by
 have hu75 := Tryz.underlying75
 have HB := Aside0.mk (Below.refl w.heap.size w)
 unfold spec_CtlPack.f at h
 have H := h
 clear h
 replace H := bn H
 obtain ⟨t206, A2, H⟩ := H
 try dsimp only at H
 have HU3 := Aside0.mk H
 clear H
 go_enter Tryz.func100, Tryz.ntmps100
 go_upto_if 6 with (first | ((with_reducible refine gd 1 ?_); refine bx 1 75 #[.int .i64 a0_0, .int .i64 a0_1, .int .u32 a0_2, .int .i64 a0_3] ?_; clear HB; intro gb205 w4 hg BK205 hb GE205 HB; clear hb hg; obtain ⟨z5_0, z5_1, z5_2, z5_3⟩ := ca4 BK205; obtain ⟨f5_0, f5_1, f5_2, f5_3⟩ := fa4 BK205) | ((with_reducible refine gf 64 ?_); refine gc Tryz.func64 (some 5) (spec_CtlOk.calls _ _ _ _ _ _ _ A2.out) ?_; rintro e w6 ⟨rfl, hb⟩; refine ⟨_, rfl, ?_⟩; replace BK205 := b_ BK205 hb; replace HB := hs hb; try clear hb))
 (try refine ap ?_)
 have H := HU3.out
 clear HU3
 replace H := ib H
 rcases H with ⟨rfl, H⟩ | ⟨rfl, H⟩
 ·(try simp only [Bool.not_true, Bool.not_false])
  simp only [Option.some.injEq, Prod.mk.injEq] at H
  obtain ⟨rfl, rfl⟩ := H
  obtain ⟨z8_0, z8_1, z8_2, z8_3⟩ := ca4 BK205
  obtain ⟨f8_0, f8_1, f8_2, f8_3⟩ := fa4 BK205
  go_wp2
  go_ret2
  exact ⟨rt, bw⟩
 ·(try simp only [Bool.not_true, Bool.not_false])
  simp only [Option.some.injEq, Prod.mk.injEq] at H
  obtain ⟨rfl, rfl⟩ := H
  go_wp2
  go_ret2
  exact ⟨rt, bw⟩

/-! ### spec_Release: function 87 -/
def spec_Release.j0 : Nat → Int → Int → Int → Bool → Option (Int × Int × Bool)
 | 0, _, _, _, _ => none
 | k + 1, x0, x1, x8, x29 => if x29 = true then (some (0, 0, false)) else ((spec_CtlRead.f k x0).bind fun bt210 => (if x8 = 0 then (none) else ((spec_BitsOf.f k (([wrap64 (Int.tdiv x1 x8)] : List Int))).bind fun bt219 => (if ((bt210.2.2.1 - bt219.1) % 4294967296) = 0 then (some (0, x8, true)) else ((spec_CtlPack.f k bt210.1 bt210.2.1 ((bt210.2.2.1 - bt219.1) % 4294967296) bt210.2.2.2.1).bind fun bt221 => (some (bt221.1, x8, true)))))))
def spec_Release.f (k : Nat) (a0 : Int) (a1 : Int) : Option (Int × Int × Bool) := (spec_BlockAt.f k a0 a1).bind fun bt207 => (if bt207.2.2 = true then (spec_Release.j0 k a0 a1 bt207.2.1 (bt207.1 != a1)) else (spec_Release.j0 k a0 a1 bt207.2.1 true))
theorem spec_Release.mono_l : ∀ k, (∀ y0 y1 y2 y3, LeO (spec_Release.j0 k y0 y1 y2 y3) (spec_Release.j0 (k + 1) y0 y1 y2 y3))
 | 0 => fun _ _ _ _ r h => by simp [spec_Release.j0] at h
 | k + 1 => by
  have ih0 := spec_Release.mono_l k
  ·intro y0 y1 y2 y3
   unfold spec_Release.j0
   repeat' first
    | (with_reducible first | exact ih0 .. | exact spec_BitsOf.mono .. | exact spec_BlockAt.mono .. | exact spec_CtlPack.mono .. | exact spec_CtlRead.mono .. | exact LeO.refl _ | exact LeO.none _ | refine LeO.ite ?_ ?_ | refine LeO.bind ?_ (fun _ => ?_))
    | exact LeO.none _ | refine LeO.ite ?_ ?_ | refine LeO.bind ?_ (fun _ => ?_)
theorem spec_Release.mono : ∀ a0 a1 k, LeO (spec_Release.f k a0 a1) (spec_Release.f (k + 1) a0 a1) := by
 intro a0 a1 k
 have ih0 := spec_Release.mono_l k
 unfold spec_Release.f
 repeat' first
  | (with_reducible first | exact ih0 .. | exact spec_BitsOf.mono .. | exact spec_BlockAt.mono .. | exact spec_CtlPack.mono .. | exact spec_CtlRead.mono .. | exact LeO.refl _ | exact LeO.none _ | refine LeO.ite ?_ ?_ | refine LeO.bind ?_ (fun _ => ?_))
  | exact LeO.none _ | refine LeO.ite ?_ ?_ | refine LeO.bind ?_ (fun _ => ?_)
set_option maxHeartbeats 2000000 in
set_option maxRecDepth 100000 in
theorem spec_Release.calls (k : Nat) (a0 : Int) (a1 : Int) (r1 : Int) (r2 : Int) (r3 : Bool) (w : World) (h : spec_Release.f k a0 a1 = some (r1, r2, r3)) :
  Calls Tryz.prog 87 #[.int .u32 a0, .int .i64 a1] w fun e w' => e = .returned (.tuple #[.int .u32 r1, .int .i64 r2, .bool r3]) ∧ Below w.heap.size w w' := by
 have hu75 := Tryz.underlying75
 have HB := Aside0.mk (Below.refl w.heap.size w)
 unfold spec_Release.f at h
 have H := h
 clear h
 replace H := bn H
 obtain ⟨⟨t207, t208, t209⟩, A3, H⟩ := H
 try dsimp only at H
 have HC4 := Aside0.mk H
 clear H
 go_enter Tryz.func87, Tryz.ntmps87
 go_upto_region 2 with (first | ((with_reducible refine gf 98 ?_); refine gc Tryz.func98 (some 19) (spec_BlockAt.calls _ _ _ _ _ _ _ A3.out) ?_; rintro e w5 ⟨rfl, hb⟩; refine ⟨_, rfl, ?_⟩; replace HB := hs hb; try clear hb))
 (try refine ap ?_)
 go_cut [29] (fun v29 wc => ∃ (kq : Nat) (x29_3 : Bool), v29 = .bool x29_3 ∧ Aside0 (spec_Release.j0 kq a0 a1 t208 x29_3 = some (r1, r2, r3)) ∧ Aside0 (kq ≤ k) ∧ Aside0 (Below w.heap.size w wc))
 case first =>
  have H := HC4.out
  clear HC4
  replace H := ib H
  rcases H with ⟨rfl, H⟩ | ⟨rfl, H⟩
  ·(try simp only [Bool.not_true, Bool.not_false])
   have H' := Aside0.mk H
   clear H
   go_wp2
   go_meet
   case rel => exact ⟨_, ((t207 != a1)), ev, H', ⟨om⟩, ⟨bw⟩⟩
  ·(try simp only [Bool.not_true, Bool.not_false])
   have H' := Aside0.mk H
   clear H
   go_wp2
   go_meet
   case rel => exact ⟨_, (true), ev, H', ⟨om⟩, ⟨bw⟩⟩
 case rest =>
  clear HC4
  obtain ⟨kq, x29_3, rfl, HA, HJ3, HB⟩ := hcut
  cases kq with
  | zero => exact absurd HA.out (by simp [spec_Release.j0])
  | succ kj3 =>
   have H := HA.out
   clear HA
   simp only [spec_Release.j0] at H
   replace H := ib H
   rcases H with ⟨rfl, H⟩ | ⟨rfl, H⟩
   ·simp only [Option.some.injEq, Prod.mk.injEq] at H
    obtain ⟨rfl, rfl, rfl⟩ := H
    go_wp2
    go_ret3
    exact ⟨rt, bw⟩
   ·replace H := bn H
    obtain ⟨⟨t210, t211, t212, t213, t214⟩, A8, H⟩ := H
    try dsimp only at H
    by_cases c9 : t208 = 0
    ·rw [if_pos c9] at H
     exact absurd H (by simp)
    ·rw [if_neg c9] at H
     have c9b0 : (t208 == 0) = false := beq_eq_false_iff_ne.mpr c9
     have c9b1 : (t208 != 0) = true := bne_iff_ne.mpr c9
     obtain ⟨y216, hy216⟩ : ∃ y_ : List Int, y_ = (([wrap64 (Int.tdiv a1 t208)] : List Int)) := ⟨_, rfl⟩
     rw [← hy216] at H
     try with_reducible replace H := bs H
     have Ny216 := Aside0.mk hy216
     clear hy216
     replace H := bn H
     obtain ⟨⟨t219, t220⟩, A10, H⟩ := H
     try dsimp only at H
     have HU11 := Aside0.mk H
     clear H
     go_upto_if 50 with (first | ((with_reducible refine gf 36 ?_); refine gc Tryz.func36 (some 32) (spec_CtlRead.calls _ _ _ _ _ _ _ _ A8.out) ?_; rintro e w12 ⟨rfl, hb⟩; refine ⟨_, rfl, ?_⟩; replace HB := hs hb; try clear hb) | ((with_reducible refine gd 10 ?_); refine bx 10 75 #[.int .i64 0, .int .i64 0, .int .u32 0, .int .i64 0] ?_; clear HB; intro gb215 w13 hg BK215 hb GE215 HB; clear hb hg; obtain ⟨z14_0, z14_1, z14_2, z14_3⟩ := ca4 BK215; obtain ⟨f14_0, f14_1, f14_2, f14_3⟩ := fa4 BK215) | ((with_reducible refine gate_dst (N := 39) rfl ?_); refine Kd.R_lit (Kd.int .i64) _ 3 ?hg (N := 39) ?hd (xs := ([wrap64 (Int.tdiv a1 t208)] : List Int)) (inner := [.int .i64 (wrap64 (Int.tdiv a1 t208))]) (ok := fun _ => True) (okp := fun _ => True) ?hr ?hp (fun _ hk => hk) trivial (Below.refl _ _) (Nat.le_refl _) (by simp) ?_; (case hd => rfl); (case hg => rfl); (case hr => first | (go_simp; done) | (go_simp; rfl)); (case hp => exact (Reps.one (show Kd.M (Kd.int .i64) _ _ _ (wrap64 (Int.tdiv a1 t208)) [.int .i64 (wrap64 (Int.tdiv a1 t208))] from rfl) (Reps.none _ _))); intro v217 w15 ho16 hb hg_ hnew_; clear hg_ hnew_; (first | rw [← Ny216.out] at ho16 | (simp only [Int.reduceToNat] at ho16; rw [← Ny216.out] at ho16)); have HO218 := Aside0.mk (Kd.R_lower ho16 (below_size bw)); replace BK215 := bq BK215 #[.int .i64 t210, .int .i64 t211, .int .u32 t212, .int .i64 t213] hb; replace HB := hs hb; clear hb ho16; obtain ⟨Ao17, co17, eo17⟩ := Kd.R_slice HO218.out; subst eo17) | ((with_reducible refine gf 99 ?_); refine gc Tryz.func99 (some 40) (spec_BitsOf.calls _ Ao17 co17 _ _ _ _ (cr HO218) ((Kd.R_reads' HO218.out).2.1) A10.out) ?_; rintro e w18 ⟨rfl, hb⟩; refine ⟨_, rfl, ?_⟩; replace HO218 := Aside0.mk (Kd.R_below (ro HO218) hb); replace BK215 := b_ BK215 hb; replace HB := hs hb; try clear hb; obtain ⟨z19_0, z19_1, z19_2, z19_3⟩ := ca4 BK215; obtain ⟨f19_0, f19_1, f19_2, f19_3⟩ := fa4 BK215))
     (try refine ap ?_)
     have H := HU11.out
     clear HU11
     replace H := ieq H
     rcases H with ⟨c20b0, c20b1, H⟩ | ⟨c20, c20b0, c20b1, H⟩
     ·(first | rw [c20b0] | (simp only [i64_w, i32_w]; rw [c20b0]) | (simp only [c20b2, Bool.not_true, Bool.not_false]) | (simp only [c20b1, Bool.not_true, Bool.not_false]) | skip)
      simp only [Option.some.injEq, Prod.mk.injEq] at H
      obtain ⟨rfl, rfl, rfl⟩ := H
      go_wp2
      go_ret3
      exact ⟨rt, bw⟩
     ·(first | rw [c20b0] | (simp only [i64_w, i32_w]; rw [c20b0]) | (simp only [c20b2, Bool.not_true, Bool.not_false]) | (simp only [c20b1, Bool.not_true, Bool.not_false]) | skip)
      replace H := bn H
      obtain ⟨⟨t221, t222⟩, A21, H⟩ := H
      try dsimp only at H
      simp only [Option.some.injEq, Prod.mk.injEq] at H
      obtain ⟨rfl, rfl, rfl⟩ := H
      obtain ⟨z22_0, z22_1, z22_2, z22_3⟩ := ca4 BK215
      obtain ⟨f22_0, f22_1, f22_2, f22_3⟩ := fa4 BK215
      go_wp2_with (first | ((with_reducible refine gf 100 ?_); refine gc Tryz.func100 (some 54) (spec_CtlPack.calls _ _ _ _ _ _ _ _ A21.out) ?_; rintro e w23 ⟨rfl, hb⟩; refine ⟨_, rfl, ?_⟩; replace HO218 := Aside0.mk (Kd.R_below (rx HO218 BK215) hb); replace BK215 := bq BK215 #[.int .i64 t210, .int .i64 t211, .int .u32 ((t212 - t219) % 4294967296), .int .i64 t213] hb; replace HB := hs hb; try clear hb))
      go_ret3
      exact ⟨rt, bw⟩

/-! ### spec_l07Gives: function 63 -/
def spec_l07Gives.f (k : Nat) (a0 : Int) (a1 : Int) : Option (Bool) := (spec_Release.f k a0 a1).bind fun bt223 => ((spec_CtlRead.f k a0).bind fun bt226 => (if bt223.2.2 = true then (some true) else (if bt226.2.2.2.2 = true then (if bt226.1 = 2 then (some (a1 == 0)) else (some false)) else (some false))))
theorem spec_l07Gives.mono : ∀ a0 a1 k, LeO (spec_l07Gives.f k a0 a1) (spec_l07Gives.f (k + 1) a0 a1) := by
 intro a0 a1 k
 unfold spec_l07Gives.f
 repeat' first
  | (with_reducible first | exact spec_CtlRead.mono .. | exact spec_Release.mono .. | exact LeO.refl _ | exact LeO.none _ | refine LeO.ite ?_ ?_ | refine LeO.bind ?_ (fun _ => ?_))
  | exact LeO.none _ | refine LeO.ite ?_ ?_ | refine LeO.bind ?_ (fun _ => ?_)
set_option maxHeartbeats 2000000 in
set_option maxRecDepth 100000 in
theorem spec_l07Gives.calls (k : Nat) (a0 : Int) (a1 : Int) (r : Bool) (w : World) (h : spec_l07Gives.f k a0 a1 = some r) :
  Calls Tryz.prog 63 #[.int .u32 a0, .int .i64 a1] w fun e w' => e = .returned (.bool r) ∧ Below w.heap.size w w' := by
 have hu75 := Tryz.underlying75
 have HB := Aside0.mk (Below.refl w.heap.size w)
 unfold spec_l07Gives.f at h
 have H := h
 clear h
 replace H := bn H
 obtain ⟨⟨t223, t224, t225⟩, A3, H⟩ := H
 try dsimp only at H
 replace H := bn H
 obtain ⟨⟨t226, t227, t228, t229, t230⟩, A4, H⟩ := H
 try dsimp only at H
 replace H := ib H
 rcases H with ⟨rfl, H⟩ | ⟨rfl, H⟩
 ·obtain rfl := Option.some.inj H
  go_enter Tryz.func63, Tryz.ntmps63
  go_wp2_with (first | ((with_reducible refine gf 87 ?_); refine gc Tryz.func87 (some 13) (spec_Release.calls _ _ _ _ _ _ _ A3.out) ?_; rintro e w6 ⟨rfl, hb⟩; refine ⟨_, rfl, ?_⟩; replace HB := hs hb; try clear hb) | ((with_reducible refine gf 36 ?_); refine gc Tryz.func36 (some 19) (spec_CtlRead.calls _ _ _ _ _ _ _ _ A4.out) ?_; rintro e w7 ⟨rfl, hb⟩; refine ⟨_, rfl, ?_⟩; replace HB := hs hb; try clear hb) | ((with_reducible refine gd 8 ?_); refine bx 8 75 #[.int .i64 0, .int .i64 0, .int .u32 0, .int .i64 0] ?_; clear HB; intro gb231 w8 hg BK231 hb GE231 HB; clear hb hg; obtain ⟨z9_0, z9_1, z9_2, z9_3⟩ := ca4 BK231; obtain ⟨f9_0, f9_1, f9_2, f9_3⟩ := fa4 BK231))
  go_ret
  exact ⟨rt, bw⟩
 ·replace H := ib H
  rcases H with ⟨rfl, H⟩ | ⟨rfl, H⟩
  ·replace H := ieq H
   rcases H with ⟨c11b0, c11b1, H⟩ | ⟨c11, c11b0, c11b1, H⟩
   ·obtain rfl := Option.some.inj H
    go_enter Tryz.func63, Tryz.ntmps63
    go_wp2_with (first | ((with_reducible refine gf 87 ?_); refine gc Tryz.func87 (some 13) (spec_Release.calls _ _ _ _ _ _ _ A3.out) ?_; rintro e w12 ⟨rfl, hb⟩; refine ⟨_, rfl, ?_⟩; replace HB := hs hb; try clear hb) | ((with_reducible refine gf 36 ?_); refine gc Tryz.func36 (some 19) (spec_CtlRead.calls _ _ _ _ _ _ _ _ A4.out) ?_; rintro e w13 ⟨rfl, hb⟩; refine ⟨_, rfl, ?_⟩; replace HB := hs hb; try clear hb) | ((with_reducible refine gd 8 ?_); refine bx 8 75 #[.int .i64 0, .int .i64 0, .int .u32 0, .int .i64 0] ?_; clear HB; intro gb231 w14 hg BK231 hb GE231 HB; clear hb hg; obtain ⟨z15_0, z15_1, z15_2, z15_3⟩ := ca4 BK231; obtain ⟨f15_0, f15_1, f15_2, f15_3⟩ := fa4 BK231))
    go_ret
    exact ⟨rt, bw⟩
   ·obtain rfl := Option.some.inj H
    go_enter Tryz.func63, Tryz.ntmps63
    go_wp2_with (first | ((with_reducible refine gf 87 ?_); refine gc Tryz.func87 (some 13) (spec_Release.calls _ _ _ _ _ _ _ A3.out) ?_; rintro e w16 ⟨rfl, hb⟩; refine ⟨_, rfl, ?_⟩; replace HB := hs hb; try clear hb) | ((with_reducible refine gf 36 ?_); refine gc Tryz.func36 (some 19) (spec_CtlRead.calls _ _ _ _ _ _ _ _ A4.out) ?_; rintro e w17 ⟨rfl, hb⟩; refine ⟨_, rfl, ?_⟩; replace HB := hs hb; try clear hb) | ((with_reducible refine gd 8 ?_); refine bx 8 75 #[.int .i64 0, .int .i64 0, .int .u32 0, .int .i64 0] ?_; clear HB; intro gb231 w18 hg BK231 hb GE231 HB; clear hb hg; obtain ⟨z19_0, z19_1, z19_2, z19_3⟩ := ca4 BK231; obtain ⟨f19_0, f19_1, f19_2, f19_3⟩ := fa4 BK231))
    go_ret
    exact ⟨rt, bw⟩
  ·obtain rfl := Option.some.inj H
   go_enter Tryz.func63, Tryz.ntmps63
   go_wp2_with (first | ((with_reducible refine gf 87 ?_); refine gc Tryz.func87 (some 13) (spec_Release.calls _ _ _ _ _ _ _ A3.out) ?_; rintro e w20 ⟨rfl, hb⟩; refine ⟨_, rfl, ?_⟩; replace HB := hs hb; try clear hb) | ((with_reducible refine gf 36 ?_); refine gc Tryz.func36 (some 19) (spec_CtlRead.calls _ _ _ _ _ _ _ _ A4.out) ?_; rintro e w21 ⟨rfl, hb⟩; refine ⟨_, rfl, ?_⟩; replace HB := hs hb; try clear hb) | ((with_reducible refine gd 8 ?_); refine bx 8 75 #[.int .i64 0, .int .i64 0, .int .u32 0, .int .i64 0] ?_; clear HB; intro gb231 w22 hg BK231 hb GE231 HB; clear hb hg; obtain ⟨z23_0, z23_1, z23_2, z23_3⟩ := ca4 BK231; obtain ⟨f23_0, f23_1, f23_2, f23_3⟩ := fa4 BK231))
   go_ret
   exact ⟨rt, bw⟩

end Go.Proofs.YtobboonnfocalaaGreatDoor.PG1
namespace Go.Proofs.YtobboonnfocalaaGreatDoor.PG1
open Go.RowKit Go.Proofs.YtobboonnfocalaaGreatDoorW.PrintWords Go.Proofs.YtobboonnfocalaaGreatDoorW.PrintLast Go.Proofs.YtobboonnfocalaaGreatDoorW.PrintMore Go.Proofs.YtobboonnfocalaaGreatDoor.T
attribute [local go_sem] max2_int min2_int max_two min_two max_three min_three max_four min_four   -- for this text's walks alone
set_option linter.unusedVariables false
set_option linter.unusedSimpArgs false

/-! ### spec_WarpOk: function 34 -/
mutual
def spec_WarpOk.j0 : Nat → Int → Bool → Int → List Int → List Int → Int → Int → Int → Int → Int → Option (Bool)
 | 0, _, _, _, _, _, _, _, _, _, _ => none
 | k + 1, x1, x35, x233000, x233001, x233002, x233003, x233004, x233005, x233006, x233007 => if x35 = true then (some false) else (if x233000 = 0 then (if x233003 = 0 then (if x233004 = 0 then (if x233005 = 0 then (if x233006 = 0 then (some (x233007 == 0)) else (some false)) else (some false)) else (some false)) else (some false)) else ((spec_ReqOk.f k x233000 x233001).bind fun t236 => (if t236 = true then (if x233003 = 0 then (spec_WarpOk.j1 k x1 true x233000 x233001 x233002 x233003 x233004 x233005 x233006 x233007) else (if x233004 < 0 then (spec_WarpOk.j1 k x1 true x233000 x233001 x233002 x233003 x233004 x233005 x233006 x233007) else (if x233005 < 0 then (spec_WarpOk.j1 k x1 true x233000 x233001 x233002 x233003 x233004 x233005 x233006 x233007) else (if x233006 < 0 then (spec_WarpOk.j1 k x1 true x233000 x233001 x233002 x233003 x233004 x233005 x233006 x233007) else (if x233005 > x1 then (spec_WarpOk.j1 k x1 true x233000 x233001 x233002 x233003 x233004 x233005 x233006 x233007) else (spec_WarpOk.j1 k x1 (decide (x233006 > 16)) x233000 x233001 x233002 x233003 x233004 x233005 x233006 x233007)))))) else (spec_WarpOk.j1 k x1 true x233000 x233001 x233002 x233003 x233004 x233005 x233006 x233007))))
def spec_WarpOk.j1 : Nat → Int → Bool → Int → List Int → List Int → Int → Int → Int → Int → Int → Option (Bool)
 | 0, _, _, _, _, _, _, _, _, _, _ => none
 | k + 1, x1, x99, x233000, x233001, x233002, x233003, x233004, x233005, x233006, x233007 => if x99 = true then (some false) else ((spec_l07Asks.f k x233000 x233001).bind fun t237 => ((spec_BitList.f k x233003).bind fun t240 => (spec_WarpOk.l0 k x1 t237 t240 0 x233000 x233001 x233002 x233003 x233004 x233005 x233006 x233007)))
def spec_WarpOk.l0 : Nat → Int → List Int → List Int → Int → Int → List Int → List Int → Int → Int → Int → Int → Int → Option (Bool)
 | 0, _, _, _, _, _, _, _, _, _, _, _, _ => none
 | k + 1, x1, x5, x6, x7, x233000, x233001, x233002, x233003, x233004, x233005, x233006, x233007 => if x7 < (x6.length : Int) then (spec_WarpOk.l1 k x1 x5 x6 x7 false 0 x233000 x233001 x233002 x233003 x233004 x233005 x233006 x233007) else (if 0 < (x6.length : Int) then (if 0 ≤ (rd x6 0) then (if (rd x6 0) < (x233001.length : Int) then (if x233000 = 1 then (spec_WarpOk.j4 k x1 (rd x233001 (rd x6 0)) (decide ((rd x233001 (rd x6 0)) > 16)) x233000 x233001 x233002 x233003 x233004 x233005 x233006 x233007) else (spec_WarpOk.j4 k x1 (rd x233001 (rd x6 0)) false x233000 x233001 x233002 x233003 x233004 x233005 x233006 x233007)) else (none)) else (none)) else (none))
def spec_WarpOk.l1 : Nat → Int → List Int → List Int → Int → Bool → Int → Int → List Int → List Int → Int → Int → Int → Int → Int → Option (Bool)
 | 0, _, _, _, _, _, _, _, _, _, _, _, _, _, _ => none
 | k + 1, x1, x5, x6, x7, x8, x9, x233000, x233001, x233002, x233003, x233004, x233005, x233006, x233007 => if x9 < (x5.length : Int) then (if x8 = true then (spec_WarpOk.l1 k x1 x5 x6 x7 true (wrap64 (x9 + 1)) x233000 x233001 x233002 x233003 x233004 x233005 x233006 x233007) else (if 0 ≤ x9 then (if 0 ≤ x7 then (if x7 < (x6.length : Int) then (spec_WarpOk.l1 k x1 x5 x6 x7 ((rd x5 x9) == (rd x6 x7)) (wrap64 (x9 + 1)) x233000 x233001 x233002 x233003 x233004 x233005 x233006 x233007) else (none)) else (none)) else (none))) else (if x8 = true then (spec_WarpOk.l0 k x1 x5 x6 (wrap64 (x7 + 1)) x233000 x233001 x233002 x233003 x233004 x233005 x233006 x233007) else (some false))
def spec_WarpOk.j4 : Nat → Int → Int → Bool → Int → List Int → List Int → Int → Int → Int → Int → Int → Option (Bool)
 | 0, _, _, _, _, _, _, _, _, _, _, _ => none
 | k + 1, x1, x10, x11, x233000, x233001, x233002, x233003, x233004, x233005, x233006, x233007 => if x233004 = 1 then (if x11 = true then (spec_WarpOk.j5 k x1 x10 x11 (x233007 != 0) x233000 x233001 x233002 x233003 x233004 x233005 x233006 x233007) else (spec_WarpOk.j5 k x1 x10 x11 false x233000 x233001 x233002 x233003 x233004 x233005 x233006 x233007)) else (spec_WarpOk.j5 k x1 x10 x11 (x233007 != 0) x233000 x233001 x233002 x233003 x233004 x233005 x233006 x233007)
def spec_WarpOk.j5 : Nat → Int → Int → Bool → Bool → Int → List Int → List Int → Int → Int → Int → Int → Int → Option (Bool)
 | 0, _, _, _, _, _, _, _, _, _, _, _, _ => none
 | k + 1, x1, x10, x11, x158, x233000, x233001, x233002, x233003, x233004, x233005, x233006, x233007 => if x158 = true then (some false) else (if x11 = true then ((spec_ChunksFor.f x10).bind fun t247 => ((spec_l07LargeOk.f k x233000 x233001 x233002 x233003 x233004 x233005 x233006 x233007 t247 x1).bind fun t248 => (some t248))) else (if x233000 = 1 then (if x233006 = 0 then (if x233004 = 0 then (some true) else (if x233004 = 1 then (if x233005 < x1 then ((spec_ClassOf.f k x10).bind fun t249 => ((spec_Room.f k x233007 t249).bind fun t250 => (some (decide (t250 > 0))))) else (some false)) else (some false))) else (some false)) else (if x233004 = 0 then (if x233005 = 0 then (some (x233006 == 0)) else (some false)) else (if x233004 = 1 then (if x233005 = 0 then (if x233006 = 0 then (if x10 < (wrap64 (16 * x1)) then ((spec_l07Gives.f k x233007 (Int.tmod x10 16)).bind fun t251 => (some t251)) else (some false)) else (some false)) else (some false)) else (if x233004 = 2 then (if x233006 > 0 then (some (decide ((wrap64 (x233005 + x233006)) ≤ x1))) else (some false)) else (some false))))))
end
def spec_WarpOk.f (k : Nat) (a0_0 : Int) (l0_1 : List Int) (l0_2 : List Int) (a0_3 : Int) (a0_4 : Int) (a0_5 : Int) (a0_6 : Int) (a0_7 : Int) (a1 : Int) : Option (Bool) := if a1 < 0 then (spec_WarpOk.j0 k a1 true a0_0 l0_1 l0_2 a0_3 a0_4 a0_5 a0_6 a0_7) else (if a1 > 16 then (spec_WarpOk.j0 k a1 true a0_0 l0_1 l0_2 a0_3 a0_4 a0_5 a0_6 a0_7) else ((spec_l03Row.f l0_1).bind fun t233 => (if t233 = true then ((spec_l03Row.f l0_2).bind fun t234 => (if t234 = true then ((spec_l03Mask.f k a0_3).bind fun t235 => (spec_WarpOk.j0 k a1 (!t235) a0_0 l0_1 l0_2 a0_3 a0_4 a0_5 a0_6 a0_7)) else (spec_WarpOk.j0 k a1 true a0_0 l0_1 l0_2 a0_3 a0_4 a0_5 a0_6 a0_7))) else (spec_WarpOk.j0 k a1 true a0_0 l0_1 l0_2 a0_3 a0_4 a0_5 a0_6 a0_7))))
theorem spec_WarpOk.mono_l : ∀ k, (∀ y0 y1 y2 y3 y4 y5 y6 y7 y8 y9, LeO (spec_WarpOk.j0 k y0 y1 y2 y3 y4 y5 y6 y7 y8 y9) (spec_WarpOk.j0 (k + 1) y0 y1 y2 y3 y4 y5 y6 y7 y8 y9)) ∧ (∀ y0 y1 y2 y3 y4 y5 y6 y7 y8 y9, LeO (spec_WarpOk.j1 k y0 y1 y2 y3 y4 y5 y6 y7 y8 y9) (spec_WarpOk.j1 (k + 1) y0 y1 y2 y3 y4 y5 y6 y7 y8 y9)) ∧ (∀ y0 y1 y2 y3 y4 y5 y6 y7 y8 y9 y10 y11, LeO (spec_WarpOk.l0 k y0 y1 y2 y3 y4 y5 y6 y7 y8 y9 y10 y11) (spec_WarpOk.l0 (k + 1) y0 y1 y2 y3 y4 y5 y6 y7 y8 y9 y10 y11)) ∧ (∀ y0 y1 y2 y3 y4 y5 y6 y7 y8 y9 y10 y11 y12 y13, LeO (spec_WarpOk.l1 k y0 y1 y2 y3 y4 y5 y6 y7 y8 y9 y10 y11 y12 y13) (spec_WarpOk.l1 (k + 1) y0 y1 y2 y3 y4 y5 y6 y7 y8 y9 y10 y11 y12 y13)) ∧ (∀ y0 y1 y2 y3 y4 y5 y6 y7 y8 y9 y10, LeO (spec_WarpOk.j4 k y0 y1 y2 y3 y4 y5 y6 y7 y8 y9 y10) (spec_WarpOk.j4 (k + 1) y0 y1 y2 y3 y4 y5 y6 y7 y8 y9 y10)) ∧ (∀ y0 y1 y2 y3 y4 y5 y6 y7 y8 y9 y10 y11, LeO (spec_WarpOk.j5 k y0 y1 y2 y3 y4 y5 y6 y7 y8 y9 y10 y11) (spec_WarpOk.j5 (k + 1) y0 y1 y2 y3 y4 y5 y6 y7 y8 y9 y10 y11))
 | 0 => ⟨fun _ _ _ _ _ _ _ _ _ _ r h => by simp [spec_WarpOk.j0] at h, fun _ _ _ _ _ _ _ _ _ _ r h => by simp [spec_WarpOk.j1] at h, fun _ _ _ _ _ _ _ _ _ _ _ _ r h => by simp [spec_WarpOk.l0] at h, fun _ _ _ _ _ _ _ _ _ _ _ _ _ _ r h => by simp [spec_WarpOk.l1] at h, fun _ _ _ _ _ _ _ _ _ _ _ r h => by simp [spec_WarpOk.j4] at h, fun _ _ _ _ _ _ _ _ _ _ _ _ r h => by simp [spec_WarpOk.j5] at h⟩
 | k + 1 => by
  obtain ⟨ih0, ih1, ih2, ih3, ih4, ih5⟩ := spec_WarpOk.mono_l k
  refine ⟨?_, ?_, ?_, ?_, ?_, ?_⟩
  ·intro y0 y1 y2 y3 y4 y5 y6 y7 y8 y9
   unfold spec_WarpOk.j0
   repeat' first
    | (with_reducible first | exact ih0 .. | exact ih1 .. | exact ih2 .. | exact ih3 .. | exact ih4 .. | exact ih5 .. | exact spec_BitList.mono .. | exact spec_ClassOf.mono .. | exact spec_ReqOk.mono .. | exact spec_Room.mono .. | exact spec_l03Mask.mono .. | exact spec_l07Asks.mono .. | exact spec_l07Gives.mono .. | exact spec_l07LargeOk.mono .. | exact LeO.refl _ | exact LeO.none _ | refine LeO.ite ?_ ?_ | refine LeO.bind ?_ (fun _ => ?_))
    | exact LeO.none _ | refine LeO.ite ?_ ?_ | refine LeO.bind ?_ (fun _ => ?_)
  ·intro y0 y1 y2 y3 y4 y5 y6 y7 y8 y9
   unfold spec_WarpOk.j1
   repeat' first
    | (with_reducible first | exact ih0 .. | exact ih1 .. | exact ih2 .. | exact ih3 .. | exact ih4 .. | exact ih5 .. | exact spec_BitList.mono .. | exact spec_ClassOf.mono .. | exact spec_ReqOk.mono .. | exact spec_Room.mono .. | exact spec_l03Mask.mono .. | exact spec_l07Asks.mono .. | exact spec_l07Gives.mono .. | exact spec_l07LargeOk.mono .. | exact LeO.refl _ | exact LeO.none _ | refine LeO.ite ?_ ?_ | refine LeO.bind ?_ (fun _ => ?_))
    | exact LeO.none _ | refine LeO.ite ?_ ?_ | refine LeO.bind ?_ (fun _ => ?_)
  ·intro y0 y1 y2 y3 y4 y5 y6 y7 y8 y9 y10 y11
   unfold spec_WarpOk.l0
   repeat' first
    | (with_reducible first | exact ih0 .. | exact ih1 .. | exact ih2 .. | exact ih3 .. | exact ih4 .. | exact ih5 .. | exact spec_BitList.mono .. | exact spec_ClassOf.mono .. | exact spec_ReqOk.mono .. | exact spec_Room.mono .. | exact spec_l03Mask.mono .. | exact spec_l07Asks.mono .. | exact spec_l07Gives.mono .. | exact spec_l07LargeOk.mono .. | exact LeO.refl _ | exact LeO.none _ | refine LeO.ite ?_ ?_ | refine LeO.bind ?_ (fun _ => ?_))
    | exact LeO.none _ | refine LeO.ite ?_ ?_ | refine LeO.bind ?_ (fun _ => ?_)
  ·intro y0 y1 y2 y3 y4 y5 y6 y7 y8 y9 y10 y11 y12 y13
   unfold spec_WarpOk.l1
   repeat' first
    | (with_reducible first | exact ih0 .. | exact ih1 .. | exact ih2 .. | exact ih3 .. | exact ih4 .. | exact ih5 .. | exact spec_BitList.mono .. | exact spec_ClassOf.mono .. | exact spec_ReqOk.mono .. | exact spec_Room.mono .. | exact spec_l03Mask.mono .. | exact spec_l07Asks.mono .. | exact spec_l07Gives.mono .. | exact spec_l07LargeOk.mono .. | exact LeO.refl _ | exact LeO.none _ | refine LeO.ite ?_ ?_ | refine LeO.bind ?_ (fun _ => ?_))
    | exact LeO.none _ | refine LeO.ite ?_ ?_ | refine LeO.bind ?_ (fun _ => ?_)
  ·intro y0 y1 y2 y3 y4 y5 y6 y7 y8 y9 y10
   unfold spec_WarpOk.j4
   repeat' first
    | (with_reducible first | exact ih0 .. | exact ih1 .. | exact ih2 .. | exact ih3 .. | exact ih4 .. | exact ih5 .. | exact spec_BitList.mono .. | exact spec_ClassOf.mono .. | exact spec_ReqOk.mono .. | exact spec_Room.mono .. | exact spec_l03Mask.mono .. | exact spec_l07Asks.mono .. | exact spec_l07Gives.mono .. | exact spec_l07LargeOk.mono .. | exact LeO.refl _ | exact LeO.none _ | refine LeO.ite ?_ ?_ | refine LeO.bind ?_ (fun _ => ?_))
    | exact LeO.none _ | refine LeO.ite ?_ ?_ | refine LeO.bind ?_ (fun _ => ?_)
  ·intro y0 y1 y2 y3 y4 y5 y6 y7 y8 y9 y10 y11
   unfold spec_WarpOk.j5
   repeat' first
    | (with_reducible first | exact ih0 .. | exact ih1 .. | exact ih2 .. | exact ih3 .. | exact ih4 .. | exact ih5 .. | exact spec_BitList.mono .. | exact spec_ClassOf.mono .. | exact spec_ReqOk.mono .. | exact spec_Room.mono .. | exact spec_l03Mask.mono .. | exact spec_l07Asks.mono .. | exact spec_l07Gives.mono .. | exact spec_l07LargeOk.mono .. | exact LeO.refl _ | exact LeO.none _ | refine LeO.ite ?_ ?_ | refine LeO.bind ?_ (fun _ => ?_))
    | exact LeO.none _ | refine LeO.ite ?_ ?_ | refine LeO.bind ?_ (fun _ => ?_)
theorem spec_WarpOk.mono : ∀ a0 a1 a2 a3 a4 a5 a6 a7 a8 k, LeO (spec_WarpOk.f k a0 a1 a2 a3 a4 a5 a6 a7 a8) (spec_WarpOk.f (k + 1) a0 a1 a2 a3 a4 a5 a6 a7 a8) := by
 intro a0 a1 a2 a3 a4 a5 a6 a7 a8 k
 obtain ⟨ih0, ih1, ih2, ih3, ih4, ih5⟩ := spec_WarpOk.mono_l k
 unfold spec_WarpOk.f
 repeat' first
  | (with_reducible first | exact ih0 .. | exact ih1 .. | exact ih2 .. | exact ih3 .. | exact ih4 .. | exact ih5 .. | exact spec_BitList.mono .. | exact spec_ClassOf.mono .. | exact spec_ReqOk.mono .. | exact spec_Room.mono .. | exact spec_l03Mask.mono .. | exact spec_l07Asks.mono .. | exact spec_l07Gives.mono .. | exact spec_l07LargeOk.mono .. | exact LeO.refl _ | exact LeO.none _ | refine LeO.ite ?_ ?_ | refine LeO.bind ?_ (fun _ => ?_))
  | exact LeO.none _ | refine LeO.ite ?_ ?_ | refine LeO.bind ?_ (fun _ => ?_)
def spec_WarpOk.T16 : Bool × List (List Nat × List Nat) := (true, [([], []), ([0], [0]), ([1], [1]), ([1], [1]), ([2, 3, 1], [1, 2, 3]), ([4, 1], [1, 4]), ([1], [1]), ([1], [1]), ([6, 7, 1], [1, 6, 7]), ([8, 1], [1, 8]), ([5, 9, 1], [1, 5, 9]), ([1, 10], [1, 10]), ([11, 1, 0, 1, 2, 3, 4, 5, 6, 7, 8, 9, 10, 11], [0, 11])])
def spec_WarpOk.B16 : List Nat := [0, 1, 3, 3, 15, 31, 3, 3, 195, 451, 1023, 2047, 4095]
theorem spec_WarpOk.tab16 : rtab .any (opsOf Tryz.f34 16) = spec_WarpOk.T16 := kr
theorem spec_WarpOk.bits16 : waitsOk spec_WarpOk.T16.2 spec_WarpOk.B16 = true := kr
def spec_WarpOk.T19 : Bool × List (List Nat × List Nat) := (true, [([], []), ([0], [0]), ([], []), ([2], [2]), ([3], [3]), ([1, 4], [1, 4]), ([5], [5]), ([6, 0, 1, 2, 3, 4, 5, 6], [6])])
def spec_WarpOk.B19 : List Nat := [0, 1, 0, 4, 12, 31, 63, 127]
theorem spec_WarpOk.tab19 : rtab .any (opsOf Tryz.f34 19) = spec_WarpOk.T19 := kr
theorem spec_WarpOk.bits19 : waitsOk spec_WarpOk.T19.2 spec_WarpOk.B19 = true := kr
def spec_WarpOk.T26 : Bool × List (List Nat × List Nat) := (true, [([], []), ([0], [0]), ([1], [1]), ([2], [2]), ([3], [3]), ([4, 3], [3, 4]), ([5, 3], [3, 5]), ([6, 3, 3], [3, 6]), ([7], [7]), ([8, 7], [7, 8]), ([9, 7], [7, 9]), ([10, 7, 7], [7, 10]), ([11], [11]), ([12, 11], [11, 12]), ([11], [11]), ([13, 14, 11], [11, 13, 14]), ([11, 15, 7], [7, 11, 15]), ([16, 11, 7], [7, 16]), ([17], [17]), ([18, 17], [17, 18]), ([17], [17]), ([20, 17, 17], [17, 20]), ([19, 21, 21, 17], [17, 19, 21]), ([22, 17], [17, 22]), ([17, 23, 7], [7, 17, 23]), ([7, 24, 3], [3, 7, 24]), ([3, 25], [3, 25]), ([26, 22, 0, 1, 2, 3, 4, 5, 6, 7, 8, 9, 10, 11, 12, 13, 14, 15, 16, 17, 18, 19, 20, 21, 22, 23, 24, 25, 26], [26])])
def spec_WarpOk.B26 : List Nat := [0, 1, 3, 7, 15, 31, 63, 127, 255, 511, 1023, 2047, 4095, 8191, 4095, 32767, 65535, 131071, 262143, 524287, 262143, 1310719, 4194303, 8388607, 16777215, 33554431, 67108863, 134217727]
theorem spec_WarpOk.tab26 : rtab .any (opsOf Tryz.f34 26) = spec_WarpOk.T26 := kr
theorem spec_WarpOk.bits26 : waitsOk spec_WarpOk.T26.2 spec_WarpOk.B26 = true := kr
set_option maxHeartbeats 8000000 in
set_option maxRecDepth 100000 in
theorem spec_WarpOk.calls (k : Nat) (a0_0 : Int) (A0_1 : Option Addr) (c0_1 : Nat) (l0_1 : List Int) (A0_2 : Option Addr) (c0_2 : Nat) (l0_2 : List Int) (a0_3 : Int) (a0_4 : Int) (a0_5 : Int) (a0_6 : Int) (a0_7 : Int) (a1 : Int) (r : Bool) (w : World) (hr0_1 : Kd.C (Kd.int .i64) w A0_1 l0_1.length l0_1) (hc0_1 : l0_1.length ≤ c0_1) (hr0_2 : Kd.C (Kd.int .i64) w A0_2 l0_2.length l0_2) (hc0_2 : l0_2.length ≤ c0_2) (h : spec_WarpOk.f k a0_0 l0_1 l0_2 a0_3 a0_4 a0_5 a0_6 a0_7 a1 = some r) :
  Calls Tryz.prog 34 #[.agg #[.int .i64 a0_0, .slice A0_1 l0_1.length c0_1, .slice A0_2 l0_2.length c0_2, .int .u32 a0_3, .int .i64 a0_4, .int .i64 a0_5, .int .i64 a0_6, .int .u32 a0_7], .int .i64 a1] w fun e w' => e = .returned (.bool r) ∧ Below w.heap.size w w' := by
 have hu49 := Tryz.underlying49
 have hu31 := Tryz.underlying31
 have HR0_1 := Aside0.mk hr0_1
 have HC0_1 := Aside0.mk hc0_1
 clear hr0_1 hc0_1
 have HR0_2 := Aside0.mk hr0_2
 have HC0_2 := Aside0.mk hc0_2
 clear hr0_2 hc0_2
 have HB := Aside0.mk (Below.refl w.heap.size w)
 unfold spec_WarpOk.f at h
 have H := h
 clear h
 have HC3 := Aside0.mk H
 clear H
 go_enter Tryz.func34, Tryz.ntmps34
 go_upto_region 1 with (first | ((with_reducible refine gd 2 ?_); refine bx 2 49 #[.int .i64 a0_0, .slice A0_1 l0_1.length c0_1, .slice A0_2 l0_2.length c0_2, .int .u32 a0_3, .int .i64 a0_4, .int .i64 a0_5, .int .i64 a0_6, .int .u32 a0_7] ?_; clear HB; intro gb232 w4 hg BK232 hb GE232 HB; clear hb hg))
 (try refine ap ?_)
 go_cut [35] (fun v35 wc => ∃ (kq : Nat) (x35_2 : Bool), v35 = .bool x35_2 ∧ Aside0 (spec_WarpOk.j0 kq a1 x35_2 a0_0 l0_1 l0_2 a0_3 a0_4 a0_5 a0_6 a0_7 = some r) ∧ Aside0 (kq ≤ k) ∧ Aside0 (wc.heap[gb232]? = some (.cells #[.int .i64 a0_0, (.slice A0_1 l0_1.length c0_1), (.slice A0_2 l0_2.length c0_2), .int .u32 a0_3, .int .i64 a0_4, .int .i64 a0_5, .int .i64 a0_6, .int .u32 a0_7] 49 (0, 0))) ∧ Aside0 (Below w.heap.size w wc))
 case first => as_aux_lemma =>
  have H := HC3.out
  clear HC3
  replace H := ilt H
  rcases H with ⟨c5b0, H⟩ | ⟨c5b0, H⟩
  ·(first | rw [c5b0] | (simp only [i64_w, i32_w]; rw [c5b0]) | (simp only [c5b2, Bool.not_true, Bool.not_false]) | (simp only [c5b1, Bool.not_true, Bool.not_false]) | skip)
   have H' := Aside0.mk H
   clear H
   go_wp2
   go_meet
   case rel => exact ⟨_, (true), ev, H', ⟨om⟩, ⟨bk BK232⟩, ⟨bw⟩⟩
  ·(first | rw [c5b0] | (simp only [i64_w, i32_w]; rw [c5b0]) | (simp only [c5b2, Bool.not_true, Bool.not_false]) | (simp only [c5b1, Bool.not_true, Bool.not_false]) | skip)
   replace H := igt H
   rcases H with ⟨c6b0, H⟩ | ⟨c6b0, H⟩
   ·have H' := Aside0.mk H
    clear H
    go_wp2
    go_meet
    case rel => exact ⟨_, (true), ev, H', ⟨om⟩, ⟨bk BK232⟩, ⟨bw⟩⟩
   ·replace H := bn H
    obtain ⟨t233, A7, H⟩ := H
    try dsimp only at H
    replace H := ib H
    rcases H with ⟨rfl, H⟩ | ⟨rfl, H⟩
    ·replace H := bn H
     obtain ⟨t234, A9, H⟩ := H
     try dsimp only at H
     replace H := ib H
     rcases H with ⟨rfl, H⟩ | ⟨rfl, H⟩
     ·replace H := bn H
      obtain ⟨t235, A11, H⟩ := H
      try dsimp only at H
      have H' := Aside0.mk H
      clear H
      obtain ⟨z12_0, z12_1, z12_2, z12_3, z12_4, z12_5, z12_6, z12_7⟩ := ca8 BK232
      obtain ⟨f12_0, f12_1, f12_2, f12_3, f12_4, f12_5, f12_6, f12_7⟩ := fa8 BK232
      go_wp2_with (first | (go_at_call 55; (with_reducible refine (spec_l03Row.calls _ _ _ _ _ ?side1 ?side2 A7.out).mono ?_); (case side1 => repeat (first | exact (Kd.C_below HR0_1.out HB.out) | (with_reducible refine Kd.C_alloc ?_ _) | (with_reducible refine Kd.C_drewN ?_ _) | (with_reducible refine Kd.C_drew ?_))); (case side2 => exact HC0_1.out); rintro e w' ⟨rfl, ⟨nd, rfl⟩⟩) | (go_at_call 55; (with_reducible refine (spec_l03Row.calls _ _ _ _ _ ?side1 ?side2 A9.out).mono ?_); (case side1 => repeat (first | exact (Kd.C_below HR0_2.out bw) | (with_reducible refine Kd.C_alloc ?_ _) | (with_reducible refine Kd.C_drewN ?_ _) | (with_reducible refine Kd.C_drew ?_))); (case side2 => exact HC0_2.out); rintro e w' ⟨rfl, ⟨nd, rfl⟩⟩) | (go_at_call 56; (with_reducible refine (spec_l03Mask.calls _ _ _ _ A11.out).mono ?_); rintro e w13 ⟨rfl, hb⟩; replace BK232 := b_ BK232 hb; replace HB := hs hb; try clear hb))
      go_meet
      case rel => exact ⟨_, (!t235), ev, H', ⟨om⟩, ⟨bk BK232⟩, ⟨bw⟩⟩
     ·have H' := Aside0.mk H
      clear H
      obtain ⟨z14_0, z14_1, z14_2, z14_3, z14_4, z14_5, z14_6, z14_7⟩ := ca8 BK232
      obtain ⟨f14_0, f14_1, f14_2, f14_3, f14_4, f14_5, f14_6, f14_7⟩ := fa8 BK232
      go_wp2_with (first | (go_at_call 55; (with_reducible refine (spec_l03Row.calls _ _ _ _ _ ?side1 ?side2 A7.out).mono ?_); (case side1 => repeat (first | exact (Kd.C_below HR0_1.out HB.out) | (with_reducible refine Kd.C_alloc ?_ _) | (with_reducible refine Kd.C_drewN ?_ _) | (with_reducible refine Kd.C_drew ?_))); (case side2 => exact HC0_1.out); rintro e w' ⟨rfl, ⟨nd, rfl⟩⟩) | (go_at_call 55; (with_reducible refine (spec_l03Row.calls _ _ _ _ _ ?side1 ?side2 A9.out).mono ?_); (case side1 => repeat (first | exact (Kd.C_below HR0_2.out bw) | (with_reducible refine Kd.C_alloc ?_ _) | (with_reducible refine Kd.C_drewN ?_ _) | (with_reducible refine Kd.C_drew ?_))); (case side2 => exact HC0_2.out); rintro e w' ⟨rfl, ⟨nd, rfl⟩⟩))
      go_meet
      case rel => exact ⟨_, (true), ev, H', ⟨om⟩, ⟨bk BK232⟩, ⟨bw⟩⟩
    ·have H' := Aside0.mk H
     clear H
     obtain ⟨z15_0, z15_1, z15_2, z15_3, z15_4, z15_5, z15_6, z15_7⟩ := ca8 BK232
     obtain ⟨f15_0, f15_1, f15_2, f15_3, f15_4, f15_5, f15_6, f15_7⟩ := fa8 BK232
     go_wp2_with (first | (go_at_call 55; (with_reducible refine (spec_l03Row.calls _ _ _ _ _ ?side1 ?side2 A7.out).mono ?_); (case side1 => repeat (first | exact (Kd.C_below HR0_1.out HB.out) | (with_reducible refine Kd.C_alloc ?_ _) | (with_reducible refine Kd.C_drewN ?_ _) | (with_reducible refine Kd.C_drew ?_))); (case side2 => exact HC0_1.out); rintro e w' ⟨rfl, ⟨nd, rfl⟩⟩))
     go_meet
     case rel => exact ⟨_, (true), ev, H', ⟨om⟩, ⟨bk BK232⟩, ⟨bw⟩⟩
 case rest => as_aux_lemma =>
  clear HC3
  obtain ⟨kq, x35_2, rfl, HA, HJ2, BK232, HB⟩ := hcut
  cases kq with
  | zero => exact absurd HA.out (by simp [spec_WarpOk.j0])
  | succ kj2 =>
   have H := HA.out
   clear HA
   simp only [spec_WarpOk.j0] at H
   replace H := ib H
   rcases H with ⟨rfl, H⟩ | ⟨rfl, H⟩
   ·obtain rfl := Option.some.inj H
    go_wp2
    go_ret
    exact ⟨rt, bw⟩
   ·replace H := ieq H
    rcases H with ⟨c17b0, c17b1, H⟩ | ⟨c17, c17b0, c17b1, H⟩
    ·replace H := ieq H
     rcases H with ⟨c18b0, c18b1, H⟩ | ⟨c18, c18b0, c18b1, H⟩
     ·replace H := ieq H
      rcases H with ⟨c19b0, c19b1, H⟩ | ⟨c19, c19b0, c19b1, H⟩
      ·replace H := ieq H
       rcases H with ⟨c20b0, c20b1, H⟩ | ⟨c20, c20b0, c20b1, H⟩
       ·replace H := ieq H
        rcases H with ⟨c21b0, c21b1, H⟩ | ⟨c21, c21b0, c21b1, H⟩
        ·obtain rfl := Option.some.inj H
         obtain ⟨z22_0, z22_1, z22_2, z22_3, z22_4, z22_5, z22_6, z22_7⟩ := ca8 BK232
         obtain ⟨f22_0, f22_1, f22_2, f22_3, f22_4, f22_5, f22_6, f22_7⟩ := fa8 BK232
         go_wp2
         go_ret
         exact ⟨rt, bw⟩
        ·obtain rfl := Option.some.inj H
         obtain ⟨z23_0, z23_1, z23_2, z23_3, z23_4, z23_5, z23_6, z23_7⟩ := ca8 BK232
         obtain ⟨f23_0, f23_1, f23_2, f23_3, f23_4, f23_5, f23_6, f23_7⟩ := fa8 BK232
         go_wp2
         go_ret
         exact ⟨rt, bw⟩
       ·obtain rfl := Option.some.inj H
        obtain ⟨z24_0, z24_1, z24_2, z24_3, z24_4, z24_5, z24_6, z24_7⟩ := ca8 BK232
        obtain ⟨f24_0, f24_1, f24_2, f24_3, f24_4, f24_5, f24_6, f24_7⟩ := fa8 BK232
        go_wp2
        go_ret
        exact ⟨rt, bw⟩
      ·obtain rfl := Option.some.inj H
       obtain ⟨z25_0, z25_1, z25_2, z25_3, z25_4, z25_5, z25_6, z25_7⟩ := ca8 BK232
       obtain ⟨f25_0, f25_1, f25_2, f25_3, f25_4, f25_5, f25_6, f25_7⟩ := fa8 BK232
       go_wp2
       go_ret
       exact ⟨rt, bw⟩
     ·obtain rfl := Option.some.inj H
      obtain ⟨z26_0, z26_1, z26_2, z26_3, z26_4, z26_5, z26_6, z26_7⟩ := ca8 BK232
      obtain ⟨f26_0, f26_1, f26_2, f26_3, f26_4, f26_5, f26_6, f26_7⟩ := fa8 BK232
      go_wp2
      go_ret
      exact ⟨rt, bw⟩
    ·have HC27 := Aside0.mk H
     clear H
     obtain ⟨z28_0, z28_1, z28_2, z28_3, z28_4, z28_5, z28_6, z28_7⟩ := ca8 BK232
     obtain ⟨f28_0, f28_1, f28_2, f28_3, f28_4, f28_5, f28_6, f28_7⟩ := fa8 BK232
     go_upto_region 5 with (fail)
     go_cut [99] (fun v99 wc => ∃ (kq : Nat) (x99_26 : Bool), v99 = .bool x99_26 ∧ Aside0 (spec_WarpOk.j1 kq a1 x99_26 a0_0 l0_1 l0_2 a0_3 a0_4 a0_5 a0_6 a0_7 = some r) ∧ Aside0 (kq ≤ kj2) ∧ Aside0 (wc.heap[gb232]? = some (.cells #[.int .i64 a0_0, (.slice A0_1 l0_1.length c0_1), (.slice A0_2 l0_2.length c0_2), .int .u32 a0_3, .int .i64 a0_4, .int .i64 a0_5, .int .i64 a0_6, .int .u32 a0_7] 49 (0, 0))) ∧ Aside0 (Below w.heap.size w wc))
     case first => as_aux_lemma =>
      have H := HC27.out
      clear HC27
      replace H := bn H
      obtain ⟨t236, A29, H⟩ := H
      try dsimp only at H
      replace H := ib H
      rcases H with ⟨rfl, H⟩ | ⟨rfl, H⟩
      ·(try simp only [Bool.not_true, Bool.not_false])
       replace H := ieq H
       rcases H with ⟨c31b0, c31b1, H⟩ | ⟨c31, c31b0, c31b1, H⟩
       ·have H' := Aside0.mk H
        clear H
        obtain ⟨z32_0, z32_1, z32_2, z32_3, z32_4, z32_5, z32_6, z32_7⟩ := ca8 BK232
        obtain ⟨f32_0, f32_1, f32_2, f32_3, f32_4, f32_5, f32_6, f32_7⟩ := fa8 BK232
        go_wp2_with (first | ((with_reducible refine gf 57 ?_); refine gc Tryz.func57 (some 67) (spec_ReqOk.calls _ _ A0_1 c0_1 _ _ _ (cb HR0_1) HC0_1.out A29.out) ?_; rintro e w33 ⟨rfl, hb⟩; refine ⟨_, rfl, ?_⟩; replace BK232 := b_ BK232 hb; replace HB := hs hb; try clear hb; obtain ⟨z34_0, z34_1, z34_2, z34_3, z34_4, z34_5, z34_6, z34_7⟩ := ca8 BK232; obtain ⟨f34_0, f34_1, f34_2, f34_3, f34_4, f34_5, f34_6, f34_7⟩ := fa8 BK232))
        go_meet
        case rel => exact ⟨_, (true), ev, H', ⟨by have := HJ2.out; first | omega | exact Nat.le_refl _⟩, ⟨bk BK232⟩, ⟨bw⟩⟩
       ·replace H := ilt H
        rcases H with ⟨c35b0, H⟩ | ⟨c35b0, H⟩
        ·have H' := Aside0.mk H
         clear H
         obtain ⟨z36_0, z36_1, z36_2, z36_3, z36_4, z36_5, z36_6, z36_7⟩ := ca8 BK232
         obtain ⟨f36_0, f36_1, f36_2, f36_3, f36_4, f36_5, f36_6, f36_7⟩ := fa8 BK232
         go_wp2_with (first | ((with_reducible refine gf 57 ?_); refine gc Tryz.func57 (some 67) (spec_ReqOk.calls _ _ A0_1 c0_1 _ _ _ (cb HR0_1) HC0_1.out A29.out) ?_; rintro e w37 ⟨rfl, hb⟩; refine ⟨_, rfl, ?_⟩; replace BK232 := b_ BK232 hb; replace HB := hs hb; try clear hb; obtain ⟨z38_0, z38_1, z38_2, z38_3, z38_4, z38_5, z38_6, z38_7⟩ := ca8 BK232; obtain ⟨f38_0, f38_1, f38_2, f38_3, f38_4, f38_5, f38_6, f38_7⟩ := fa8 BK232))
         go_meet
         case rel => exact ⟨_, (true), ev, H', ⟨by have := HJ2.out; first | omega | exact Nat.le_refl _⟩, ⟨bk BK232⟩, ⟨bw⟩⟩
        ·replace H := ilt H
         rcases H with ⟨c39b0, H⟩ | ⟨c39b0, H⟩
         ·have H' := Aside0.mk H
          clear H
          obtain ⟨z40_0, z40_1, z40_2, z40_3, z40_4, z40_5, z40_6, z40_7⟩ := ca8 BK232
          obtain ⟨f40_0, f40_1, f40_2, f40_3, f40_4, f40_5, f40_6, f40_7⟩ := fa8 BK232
          go_wp2_with (first | ((with_reducible refine gf 57 ?_); refine gc Tryz.func57 (some 67) (spec_ReqOk.calls _ _ A0_1 c0_1 _ _ _ (cb HR0_1) HC0_1.out A29.out) ?_; rintro e w41 ⟨rfl, hb⟩; refine ⟨_, rfl, ?_⟩; replace BK232 := b_ BK232 hb; replace HB := hs hb; try clear hb; obtain ⟨z42_0, z42_1, z42_2, z42_3, z42_4, z42_5, z42_6, z42_7⟩ := ca8 BK232; obtain ⟨f42_0, f42_1, f42_2, f42_3, f42_4, f42_5, f42_6, f42_7⟩ := fa8 BK232))
          go_meet
          case rel => exact ⟨_, (true), ev, H', ⟨by have := HJ2.out; first | omega | exact Nat.le_refl _⟩, ⟨bk BK232⟩, ⟨bw⟩⟩
         ·replace H := ilt H
          rcases H with ⟨c43b0, H⟩ | ⟨c43b0, H⟩
          ·have H' := Aside0.mk H
           clear H
           obtain ⟨z44_0, z44_1, z44_2, z44_3, z44_4, z44_5, z44_6, z44_7⟩ := ca8 BK232
           obtain ⟨f44_0, f44_1, f44_2, f44_3, f44_4, f44_5, f44_6, f44_7⟩ := fa8 BK232
           go_wp2_with (first | ((with_reducible refine gf 57 ?_); refine gc Tryz.func57 (some 67) (spec_ReqOk.calls _ _ A0_1 c0_1 _ _ _ (cb HR0_1) HC0_1.out A29.out) ?_; rintro e w45 ⟨rfl, hb⟩; refine ⟨_, rfl, ?_⟩; replace BK232 := b_ BK232 hb; replace HB := hs hb; try clear hb; obtain ⟨z46_0, z46_1, z46_2, z46_3, z46_4, z46_5, z46_6, z46_7⟩ := ca8 BK232; obtain ⟨f46_0, f46_1, f46_2, f46_3, f46_4, f46_5, f46_6, f46_7⟩ := fa8 BK232))
           go_meet
           case rel => exact ⟨_, (true), ev, H', ⟨by have := HJ2.out; first | omega | exact Nat.le_refl _⟩, ⟨bk BK232⟩, ⟨bw⟩⟩
          ·replace H := igt H
           rcases H with ⟨c47b0, H⟩ | ⟨c47b0, H⟩
           ·have H' := Aside0.mk H
            clear H
            obtain ⟨z48_0, z48_1, z48_2, z48_3, z48_4, z48_5, z48_6, z48_7⟩ := ca8 BK232
            obtain ⟨f48_0, f48_1, f48_2, f48_3, f48_4, f48_5, f48_6, f48_7⟩ := fa8 BK232
            go_wp2_with (first | ((with_reducible refine gf 57 ?_); refine gc Tryz.func57 (some 67) (spec_ReqOk.calls _ _ A0_1 c0_1 _ _ _ (cb HR0_1) HC0_1.out A29.out) ?_; rintro e w49 ⟨rfl, hb⟩; refine ⟨_, rfl, ?_⟩; replace BK232 := b_ BK232 hb; replace HB := hs hb; try clear hb; obtain ⟨z50_0, z50_1, z50_2, z50_3, z50_4, z50_5, z50_6, z50_7⟩ := ca8 BK232; obtain ⟨f50_0, f50_1, f50_2, f50_3, f50_4, f50_5, f50_6, f50_7⟩ := fa8 BK232))
            go_meet
            case rel => exact ⟨_, (true), ev, H', ⟨by have := HJ2.out; first | omega | exact Nat.le_refl _⟩, ⟨bk BK232⟩, ⟨bw⟩⟩
           ·have H' := Aside0.mk H
            clear H
            obtain ⟨z51_0, z51_1, z51_2, z51_3, z51_4, z51_5, z51_6, z51_7⟩ := ca8 BK232
            obtain ⟨f51_0, f51_1, f51_2, f51_3, f51_4, f51_5, f51_6, f51_7⟩ := fa8 BK232
            go_wp2_with (first | ((with_reducible refine gf 57 ?_); refine gc Tryz.func57 (some 67) (spec_ReqOk.calls _ _ A0_1 c0_1 _ _ _ (cb HR0_1) HC0_1.out A29.out) ?_; rintro e w52 ⟨rfl, hb⟩; refine ⟨_, rfl, ?_⟩; replace BK232 := b_ BK232 hb; replace HB := hs hb; try clear hb; obtain ⟨z53_0, z53_1, z53_2, z53_3, z53_4, z53_5, z53_6, z53_7⟩ := ca8 BK232; obtain ⟨f53_0, f53_1, f53_2, f53_3, f53_4, f53_5, f53_6, f53_7⟩ := fa8 BK232))
            go_meet
            case rel => exact ⟨_, (decide (a0_6 > 16)), ev, H', ⟨by have := HJ2.out; first | omega | exact Nat.le_refl _⟩, ⟨bk BK232⟩, ⟨bw⟩⟩
      ·(try simp only [Bool.not_true, Bool.not_false])
       have H' := Aside0.mk H
       clear H
       obtain ⟨z54_0, z54_1, z54_2, z54_3, z54_4, z54_5, z54_6, z54_7⟩ := ca8 BK232
       obtain ⟨f54_0, f54_1, f54_2, f54_3, f54_4, f54_5, f54_6, f54_7⟩ := fa8 BK232
       go_wp2_with (first | ((with_reducible refine gf 57 ?_); refine gc Tryz.func57 (some 67) (spec_ReqOk.calls _ _ A0_1 c0_1 _ _ _ (cb HR0_1) HC0_1.out A29.out) ?_; rintro e w55 ⟨rfl, hb⟩; refine ⟨_, rfl, ?_⟩; replace BK232 := b_ BK232 hb; replace HB := hs hb; try clear hb))
       go_meet
       case rel => exact ⟨_, (true), ev, H', ⟨by have := HJ2.out; first | omega | exact Nat.le_refl _⟩, ⟨bk BK232⟩, ⟨bw⟩⟩
     case rest => as_aux_lemma =>
      clear HC27
      try clear c16
      try clear c17
      try clear c17b0
      try clear c17b1
      (try clear z28_0 z28_1 z28_2 z28_3 z28_4 z28_5 z28_6 z28_7)
      (try clear f28_0 f28_1 f28_2 f28_3 f28_4 f28_5 f28_6 f28_7)
      obtain ⟨kq, x99_26, rfl, HA, HJ26, BK232, HB⟩ := hcut
      cases kq with
      | zero => exact absurd HA.out (by simp [spec_WarpOk.j1])
      | succ kj26 =>
       have H := HA.out
       clear HA
       simp only [spec_WarpOk.j1] at H
       replace H := ib H
       rcases H with ⟨rfl, H⟩ | ⟨rfl, H⟩
       ·obtain rfl := Option.some.inj H
        go_wp2
        go_ret
        exact ⟨rt, bw⟩
       ·replace H := bn H
        obtain ⟨t237, A57, H⟩ := H
        try dsimp only at H
        replace H := bn H
        obtain ⟨t240, A58, H⟩ := H
        try dsimp only at H
        have H' := Aside0.mk H
        clear H
        obtain ⟨z59_0, z59_1, z59_2, z59_3, z59_4, z59_5, z59_6, z59_7⟩ := ca8 BK232
        obtain ⟨f59_0, f59_1, f59_2, f59_3, f59_4, f59_5, f59_6, f59_7⟩ := fa8 BK232
        go_wp2_with (first | ((with_reducible refine gf 58 ?_); refine gc Tryz.func58 (some 104) (spec_l07Asks.calls _ _ A0_1 c0_1 _ _ _ (cb HR0_1) HC0_1.out A57.out) ?_; rintro e w60 ⟨v238, rfl, ho0, hb⟩; refine ⟨_, rfl, ?_⟩; have HO239 := Aside0.mk (Kd.R_lower ho0 (below_size bw)); replace BK232 := b_ BK232 hb; replace HB := hs hb; try clear hb; (try clear ho0); obtain ⟨z61_0, z61_1, z61_2, z61_3, z61_4, z61_5, z61_6, z61_7⟩ := ca8 BK232; obtain ⟨f61_0, f61_1, f61_2, f61_3, f61_4, f61_5, f61_6, f61_7⟩ := fa8 BK232) | ((with_reducible refine gf 37 ?_); refine gc Tryz.func37 (some 107) (spec_BitList.calls _ _ _ _ A58.out) ?_; rintro e w62 ⟨v241, rfl, ho0, hb⟩; refine ⟨_, rfl, ?_⟩; have HO242 := Aside0.mk (Kd.R_lower (Kd.R_new' ho0 (Kd.R_lt (ro HO239))) (below_size bw)); replace HO239 := Aside0.mk (Kd.R_elder' (ro HO239) (Kd.R_base ho0) hb); replace BK232 := b_ BK232 hb; replace HB := hs hb; try clear hb; (try clear ho0)))
        go_loopg [7] kj26 (fun kq v7 w' => ∃ (x7_3 : Int), v7 = .int .i64 x7_3 ∧ Aside0 (spec_WarpOk.l0 kq a1 t237 t240 x7_3 a0_0 l0_1 l0_2 a0_3 a0_4 a0_5 a0_6 a0_7 = some r) ∧ Aside0 (kq ≤ kj26) ∧ Aside0 (Kd.R (Kd.int .i64) 3 w' w.heap.size (fun k_ => some k_ ≠ (v241 : Value).ownBlock) v238 t237) ∧ Aside0 (Kd.R (Kd.int .i64) 3 w' w.heap.size (fun k_ => some k_ ≠ (v238 : Value).ownBlock) v241 t240) ∧ Aside0 (w'.heap[gb232]? = some (.cells #[.int .i64 a0_0, (.slice A0_1 l0_1.length c0_1), (.slice A0_2 l0_2.length c0_2), .int .u32 a0_3, .int .i64 a0_4, .int .i64 a0_5, .int .i64 a0_6, .int .u32 a0_7] 49 (0, 0))) ∧ Aside0 (Below w.heap.size w w'))
        case atStart => exact ⟨(0), ev, H', ⟨Nat.le_refl _⟩, ⟨by (with_reducible repeat (first | apply Kd.R_alloc | apply Kd.R_drewN | apply Kd.R_drew)); exact Kd.R_mono HO239.out (fun _ hk => hk.2)⟩, ⟨by (with_reducible repeat (first | apply Kd.R_alloc | apply Kd.R_drewN | apply Kd.R_drew)); exact Kd.R_mono HO242.out (fun _ hk => hk.2)⟩, ⟨bk BK232⟩, ⟨bw⟩⟩
        case round =>
         clear H'
         try clear c16
         try clear c17
         try clear c17b0
         try clear c17b1
         try clear c56
         (try clear z28_0 z28_1 z28_2 z28_3 z28_4 z28_5 z28_6 z28_7)
         (try clear z59_0 z59_1 z59_2 z59_3 z59_4 z59_5 z59_6 z59_7)
         (try clear z61_0 z61_1 z61_2 z61_3 z61_4 z61_5 z61_6 z61_7)
         (try clear f28_0 f28_1 f28_2 f28_3 f28_4 f28_5 f28_6 f28_7)
         (try clear f59_0 f59_1 f59_2 f59_3 f59_4 f59_5 f59_6 f59_7)
         (try clear f61_0 f61_1 f61_2 f61_3 f61_4 f61_5 f61_6 f61_7)
         obtain ⟨x7_3, rfl, HA, HK3, HO_5, HO_6, BK232, HB⟩ := hrel
         cases gk with
         | zero => exact absurd HA.out (by simp [spec_WarpOk.l0])
         | succ k3 =>
          have H := HA.out
          clear HA
          simp only [spec_WarpOk.l0] at H
          replace H := ilt H
          rcases H with ⟨c63b0, H⟩ | ⟨c63b0, H⟩
          ·have H' := Aside0.mk H
           clear H
           obtain ⟨Ao64, co64, eo64⟩ := Kd.R_slice HO_6.out
           subst eo64
           go_wp2
           go_loopg [8, 9] k3 (fun kq v8 v9 w' => ∃ (x8_4 : Bool) (x9_4 : Int), v8 = .bool x8_4 ∧ v9 = .int .i64 x9_4 ∧ Aside0 (spec_WarpOk.l1 kq a1 t237 t240 x7_3 x8_4 x9_4 a0_0 l0_1 l0_2 a0_3 a0_4 a0_5 a0_6 a0_7 = some r) ∧ Aside0 (kq ≤ k3) ∧ Aside0 (Kd.R (Kd.int .i64) 3 w' w.heap.size (fun k_ => some k_ ≠ ((.slice Ao64 t240.length co64) : Value).ownBlock) v238 t237) ∧ Aside0 (Kd.R (Kd.int .i64) 3 w' w.heap.size (fun k_ => some k_ ≠ (v238 : Value).ownBlock) (.slice Ao64 t240.length co64) t240) ∧ Aside0 (w'.heap[gb232]? = some (.cells #[.int .i64 a0_0, (.slice A0_1 l0_1.length c0_1), (.slice A0_2 l0_2.length c0_2), .int .u32 a0_3, .int .i64 a0_4, .int .i64 a0_5, .int .i64 a0_6, .int .u32 a0_7] 49 (0, 0))) ∧ Aside0 (Below w.heap.size w w'))
           case atStart => exact ⟨(false), (0), ev, ev, H', ⟨Nat.le_refl _⟩, ⟨ro HO_5⟩, ⟨ro HO_6⟩, ⟨bk BK232⟩, ⟨bw⟩⟩
           case round =>
            clear H'
            try clear c16
            try clear c17
            try clear c17b0
            try clear c17b1
            try clear c56
            try clear c63
            try clear c63b0
            (try clear z28_0 z28_1 z28_2 z28_3 z28_4 z28_5 z28_6 z28_7)
            (try clear z59_0 z59_1 z59_2 z59_3 z59_4 z59_5 z59_6 z59_7)
            (try clear z61_0 z61_1 z61_2 z61_3 z61_4 z61_5 z61_6 z61_7)
            (try clear f28_0 f28_1 f28_2 f28_3 f28_4 f28_5 f28_6 f28_7)
            (try clear f59_0 f59_1 f59_2 f59_3 f59_4 f59_5 f59_6 f59_7)
            (try clear f61_0 f61_1 f61_2 f61_3 f61_4 f61_5 f61_6 f61_7)
            obtain ⟨x8_4, x9_4, rfl, rfl, HA, HK4, HO_5, HO_6, BK232, HB⟩ := hrel
            cases gk with
            | zero => exact absurd HA.out (by simp [spec_WarpOk.l1])
            | succ k4 =>
             have H := HA.out
             clear HA
             simp only [spec_WarpOk.l1] at H
             replace H := ilt H
             rcases H with ⟨c65b0, H⟩ | ⟨c65b0, H⟩
             ·replace H := ib H
              rcases H with ⟨rfl, H⟩ | ⟨rfl, H⟩
              ·have H' := Aside0.mk H
               clear H
               obtain ⟨Ao67, co67, eo67⟩ := Kd.R_slice HO_5.out
               subst eo67
               try go_wp2
               replace HO_5 := Aside0.mk (Kd.R_drew HO_5.out)
               replace HO_6 := Aside0.mk (Kd.R_drew HO_6.out)
               replace BK232 := bd BK232
               replace HB := hd HB
               refine st 13 (fun w' => True) [] (trivial) spec_WarpOk.tab16 spec_WarpOk.bits16 ?_; intro hHeld HT_ HW_
               generalize wr.drew = w68 at HO_5 HO_6 BK232 HB hHeld ⊢
               refine pu 0 120 (bl 13 1) ?_
               refine pu 1 121 (bl 13 3) ?_
               refine pf 2 122 (bl 13 7) ?_
               refine pf 3 123 (bl 13 15) ?_
               refine pf 4 124 (bl 13 31) ?_
               refine pf 5 125 (bl 13 63) ?_
               refine pf 6 126 (bl 13 127) ?_
               refine pf 7 127 (bl 13 255) ?_
               refine pf 8 128 (bl 13 511) ?_
               refine pf 9 129 (bl 13 1023) ?_
               refine pf 10 130 (bl 13 2047) ?_
               refine pu 11 131 (bl 13 4095) ?_
               refine pu 12 8 (bl 13 8191) ?_
               refine dn ?_ _
               try go_wp2
               go_roundg k4
               case measure => have := HJ2.out; have := HJ26.out; have := HK3.out; have := HK4.out; omega
               case rel => exact ⟨(true), (wrap64 (x9_4 + 1)), ev, ev, H', ⟨by have := HJ2.out; have := HJ26.out; have := HK3.out; have := HK4.out; omega⟩, ⟨ro HO_5⟩, ⟨ro HO_6⟩, ⟨bk BK232⟩, ⟨bw⟩⟩
              ·by_cases c69 : 0 ≤ x9_4
               ·rw [if_pos c69] at H
                have c69b0 : decide (0 ≤ x9_4) = true := decide_eq_true c69
                clear c69
                by_cases c70 : 0 ≤ x7_3
                ·rw [if_pos c70] at H
                 have c70b0 : decide (0 ≤ x7_3) = true := decide_eq_true c70
                 clear c70
                 by_cases c71 : x7_3 < (t240.length : Int)
                 ·rw [if_pos c71] at H
                  have c71b0 : decide (x7_3 < (t240.length : Int)) = true := decide_eq_true c71
                  clear c71
                  have H' := Aside0.mk H
                  clear H
                  obtain ⟨Ao72, co72, eo72⟩ := Kd.R_slice HO_5.out
                  subst eo72
                  try go_wp2
                  replace HO_5 := Aside0.mk (Kd.R_drew HO_5.out)
                  replace HO_6 := Aside0.mk (Kd.R_drew HO_6.out)
                  replace BK232 := bd BK232
                  replace HB := hd HB
                  have p243 : 0 ≤ (x9_4 : Int) := of_decide_eq_true as_
                  have q243 : x9_4 < (t237.length : Int) := of_decide_eq_true as_
                  obtain ⟨ad243, e243, hx243_0⟩ := Kd.at_int (Kd.R_reads' HO_5.out).2.2 x9_4 p243 q243
                  cases e243
                  replace p243 := eq_true p243
                  replace q243 := eq_true q243
                  have p244 : 0 ≤ (x7_3 : Int) := of_decide_eq_true as_
                  have q244 : x7_3 < (t240.length : Int) := of_decide_eq_true as_
                  obtain ⟨ad244, e244, hx244_0⟩ := Kd.at_int (Kd.R_reads' HO_6.out).2.2 x7_3 p244 q244
                  cases e244
                  replace p244 := eq_true p244
                  replace q244 := eq_true q244
                  refine st 13 (fun w' => w'.cell? (ad243.add (x9_4).toNat) = some (.int .i64 (rd t237 x9_4)) ∧ w'.cell? (ad244.add (x7_3).toNat) = some (.int .i64 (rd t240 x7_3))) [] ⟨hx243_0, hx244_0⟩ spec_WarpOk.tab16 spec_WarpOk.bits16 ?_; intro hHeld HT_ HW_
                  generalize wr.drew = w73 at HO_5 HO_6 BK232 HB hx243_0 hx244_0 hHeld ⊢
                  refine pu 0 120 (bl 13 1) ?_
                  refine pu 1 121 (bl 13 3) ?_
                  refine pu 2 122 (bl 13 7) ?_
                  refine pu 3 123 (bl 13 15) ?_
                  refine pu 4 124 (bl 13 31) ?_
                  refine pu 6 126 (bl 13 95) ?_
                  refine pu 7 127 (bl 13 223) ?_
                  refine pu 8 128 (bl 13 479) ?_
                  refine tk 5 125 (bl 13 511) ?_
                  refine tk 9 129 (bl 13 1023) ?_
                  refine pu 10 130 (bl 13 2047) ?_
                  refine pu 11 131 (bl 13 4095) ?_
                  refine pu 12 8 (bl 13 8191) ?_
                  refine dn ?_ _
                  try go_wp2
                  go_roundg k4
                  case measure => have := HJ2.out; have := HJ26.out; have := HK3.out; have := HK4.out; omega
                  case rel => exact ⟨(((rd t237 x9_4) == (rd t240 x7_3))), (wrap64 (x9_4 + 1)), ev, ev, H', ⟨by have := HJ2.out; have := HJ26.out; have := HK3.out; have := HK4.out; omega⟩, ⟨ro HO_5⟩, ⟨ro HO_6⟩, ⟨bk BK232⟩, ⟨bw⟩⟩
                 ·rw [if_neg c71] at H
                  exact absurd H (by simp)
                ·rw [if_neg c70] at H
                 exact absurd H (by simp)
               ·rw [if_neg c69] at H
                exact absurd H (by simp)
             ·replace H := ib H
              rcases H with ⟨rfl, H⟩ | ⟨rfl, H⟩
              ·have H' := Aside0.mk H
               clear H
               obtain ⟨Ao75, co75, eo75⟩ := Kd.R_slice HO_5.out
               subst eo75
               go_wp2
               go_roundg k4
               case measure => have := HJ2.out; have := HJ26.out; have := HK3.out; have := HK4.out; omega
               case rel => exact ⟨(wrap64 (x7_3 + 1)), ev, H', ⟨by have := HJ2.out; have := HJ26.out; have := HK3.out; have := HK4.out; omega⟩, ⟨ro HO_5⟩, ⟨ro HO_6⟩, ⟨bk BK232⟩, ⟨bw⟩⟩
              ·obtain rfl := Option.some.inj H
               obtain ⟨Ao76, co76, eo76⟩ := Kd.R_slice HO_5.out
               subst eo76
               go_wp2
               go_ret
               exact ⟨rt, bw⟩
          ·by_cases c77 : 0 < (t240.length : Int)
           ·rw [if_pos c77] at H
            have c77b0 : decide (0 < (t240.length : Int)) = true := decide_eq_true c77
            have c77b1 : decide (0 < t240.length) = true := decide_eq_true (by omega)
            clear c77
            by_cases c78 : 0 ≤ (rd t240 0)
            ·rw [if_pos c78] at H
             have c78b0 : decide (0 ≤ (rd t240 0)) = true := decide_eq_true c78
             clear c78
             by_cases c79 : (rd t240 0) < (l0_1.length : Int)
             ·rw [if_pos c79] at H
              have c79b0 : decide ((rd t240 0) < (l0_1.length : Int)) = true := decide_eq_true c79
              clear c79
              have HC80 := Aside0.mk H
              clear H
              obtain ⟨Ao81, co81, eo81⟩ := Kd.R_slice HO_6.out
              subst eo81
              try go_wp2
              replace HO_5 := Aside0.mk (Kd.R_drew HO_5.out)
              replace HO_6 := Aside0.mk (Kd.R_drew HO_6.out)
              replace BK232 := bd BK232
              replace HB := hd HB
              have p245 : 0 ≤ (0 : Int) := (by omega)
              have q245 : 0 < (t240.length : Int) := of_decide_eq_true as_
              obtain ⟨ad245, e245, hx245_0⟩ := Kd.at_int (Kd.R_reads' HO_6.out).2.2 0 p245 q245
              cases e245
              have qi245 : (0 < t240.length) = True := eq_true (by omega)
              (try rw [show ((0 : Int)).toNat = 0 from rfl] at hx245_0)
              (try rw [Addr.add_zero'] at hx245_0)
              replace p245 := eq_true p245
              replace q245 := eq_true q245
              obtain ⟨ad246, e246, hw246_0, hx246_0, p246, q246⟩ := ri HR0_1 HB (rd t240 0)
              cases e246
              refine st 8 (fun w' => CA w' gb232 0 [.int .i64 a0_0, .slice (some ad246) l0_1.length c0_1, .slice A0_2 l0_2.length c0_2, .int .u32 a0_3, .int .i64 a0_4, .int .i64 a0_5, .int .i64 a0_6, .int .u32 a0_7] ∧ w'.cell? ad245 = some (.int .i64 (rd t240 0)) ∧ w'.cell? (ad246.add ((rd t240 0)).toNat) = some (.int .i64 (rd l0_1 (rd t240 0)))) [] ⟨cx BK232, hx245_0, (cl HB hw246_0 :)⟩ spec_WarpOk.tab19 spec_WarpOk.bits19 ?_; intro hHeld HT_ HW_
              generalize wr.drew = w82 at HO_5 HO_6 BK232 HB hx245_0 hx246_0 hHeld ⊢
              refine pu 0 134 (bl 8 1) ?_
              refine pu 2 136 (bl 8 5) ?_
              refine pu 3 137 (bl 8 13) ?_
              refine tk 1 135 (bl 8 15) ?_
              refine tk 4 138 (bl 8 31) ?_
              refine pu 5 139 (bl 8 63) ?_
              refine tk 6 140 (bl 8 127) ?_
              refine pu 7 10 (bl 8 255) ?_
              refine dn ?_ _
              go_upto_region 20 with (fail)
              go_cut [11] (fun v11 wc => ∃ (kq : Nat) (x11_79 : Bool), v11 = .bool x11_79 ∧ Aside0 (spec_WarpOk.j4 kq a1 (rd l0_1 (rd t240 0)) x11_79 a0_0 l0_1 l0_2 a0_3 a0_4 a0_5 a0_6 a0_7 = some r) ∧ Aside0 (kq ≤ k3) ∧ Aside0 (wc.heap[gb232]? = some (.cells #[.int .i64 a0_0, (.slice (some ad246) l0_1.length c0_1), (.slice A0_2 l0_2.length c0_2), .int .u32 a0_3, .int .i64 a0_4, .int .i64 a0_5, .int .i64 a0_6, .int .u32 a0_7] 49 (0, 0))) ∧ Aside0 (Below w.heap.size w wc))
              case first => as_aux_lemma =>
               have H := HC80.out
               clear HC80
               replace H := ieq H
               rcases H with ⟨c83b0, c83b1, H⟩ | ⟨c83, c83b0, c83b1, H⟩
               ·(first | rw [c83b0] | (simp only [i64_w, i32_w]; rw [c83b0]) | (simp only [c83b2, Bool.not_true, Bool.not_false]) | (simp only [c83b1, Bool.not_true, Bool.not_false]) | skip)
                have H' := Aside0.mk H
                clear H
                obtain ⟨z84_0, z84_1, z84_2, z84_3, z84_4, z84_5, z84_6, z84_7⟩ := ca8 BK232
                obtain ⟨f84_0, f84_1, f84_2, f84_3, f84_4, f84_5, f84_6, f84_7⟩ := fa8 BK232
                go_wp2
                go_meet
                case rel => exact ⟨_, (decide ((rd l0_1 (rd t240 0)) > 16)), ev, H', ⟨by have := HJ2.out; have := HJ26.out; have := HK3.out; first | omega | exact Nat.le_refl _⟩, ⟨bk BK232⟩, ⟨bw⟩⟩
               ·(first | rw [c83b0] | (simp only [i64_w, i32_w]; rw [c83b0]) | (simp only [c83b2, Bool.not_true, Bool.not_false]) | (simp only [c83b1, Bool.not_true, Bool.not_false]) | skip)
                have H' := Aside0.mk H
                clear H
                obtain ⟨z85_0, z85_1, z85_2, z85_3, z85_4, z85_5, z85_6, z85_7⟩ := ca8 BK232
                obtain ⟨f85_0, f85_1, f85_2, f85_3, f85_4, f85_5, f85_6, f85_7⟩ := fa8 BK232
                go_wp2
                go_meet
                case rel => exact ⟨_, (false), ev, H', ⟨by have := HJ2.out; have := HJ26.out; have := HK3.out; first | omega | exact Nat.le_refl _⟩, ⟨bk BK232⟩, ⟨bw⟩⟩
              case rest => as_aux_lemma =>
               clear HC80
               try clear c63
               try clear c63b0
               try clear c77
               try clear c77b0
               try clear c77b1
               try clear c78
               try clear c78b0
               try clear c79
               try clear c79b0
               (try clear f28_0 f28_1 f28_2 f28_3 f28_4 f28_5 f28_6 f28_7)
               (try clear f59_0 f59_1 f59_2 f59_3 f59_4 f59_5 f59_6 f59_7)
               (try clear f61_0 f61_1 f61_2 f61_3 f61_4 f61_5 f61_6 f61_7)
               try clear hx245_0
               try clear hx246_0
               try clear p245
               try clear p246
               try clear q245
               try clear q246
               obtain ⟨kq, x11_79, rfl, HA, HJ79, BK232, HB⟩ := hcut
               cases kq with
               | zero => exact absurd HA.out (by simp [spec_WarpOk.j4])
               | succ kj79 =>
                have H := HA.out
                clear HA
                simp only [spec_WarpOk.j4] at H
                have HC86 := Aside0.mk H
                clear H
                go_upto_region 21 with (fail)
                go_cut [158] (fun v158 wc => ∃ (kq : Nat) (x158_85 : Bool), v158 = .bool x158_85 ∧ Aside0 (spec_WarpOk.j5 kq a1 (rd l0_1 (rd t240 0)) x11_79 x158_85 a0_0 l0_1 l0_2 a0_3 a0_4 a0_5 a0_6 a0_7 = some r) ∧ Aside0 (kq ≤ kj79) ∧ Aside0 (wc.heap[gb232]? = some (.cells #[.int .i64 a0_0, (.slice (some ad246) l0_1.length c0_1), (.slice A0_2 l0_2.length c0_2), .int .u32 a0_3, .int .i64 a0_4, .int .i64 a0_5, .int .i64 a0_6, .int .u32 a0_7] 49 (0, 0))) ∧ Aside0 (Below w.heap.size w wc))
                case first => as_aux_lemma =>
                 have H := HC86.out
                 clear HC86
                 replace H := ieq H
                 rcases H with ⟨c87b0, c87b1, H⟩ | ⟨c87, c87b0, c87b1, H⟩
                 ·(first | rw [c87b0] | (simp only [i64_w, i32_w]; rw [c87b0]) | (simp only [c87b2, Bool.not_true, Bool.not_false]) | (simp only [c87b1, Bool.not_true, Bool.not_false]) | skip)
                  replace H := ib H
                  rcases H with ⟨rfl, H⟩ | ⟨rfl, H⟩
                  ·have H' := Aside0.mk H
                   clear H
                   obtain ⟨z89_0, z89_1, z89_2, z89_3, z89_4, z89_5, z89_6, z89_7⟩ := ca8 BK232
                   obtain ⟨f89_0, f89_1, f89_2, f89_3, f89_4, f89_5, f89_6, f89_7⟩ := fa8 BK232
                   go_wp2
                   go_meet
                   case rel => exact ⟨_, ((a0_7 != 0)), ev, H', ⟨by have := HJ2.out; have := HJ26.out; have := HK3.out; have := HJ79.out; first | omega | exact Nat.le_refl _⟩, ⟨bk BK232⟩, ⟨bw⟩⟩
                  ·have H' := Aside0.mk H
                   clear H
                   obtain ⟨z90_0, z90_1, z90_2, z90_3, z90_4, z90_5, z90_6, z90_7⟩ := ca8 BK232
                   obtain ⟨f90_0, f90_1, f90_2, f90_3, f90_4, f90_5, f90_6, f90_7⟩ := fa8 BK232
                   go_wp2
                   go_meet
                   case rel => exact ⟨_, (false), ev, H', ⟨by have := HJ2.out; have := HJ26.out; have := HK3.out; have := HJ79.out; first | omega | exact Nat.le_refl _⟩, ⟨bk BK232⟩, ⟨bw⟩⟩
                 ·(first | rw [c87b0] | (simp only [i64_w, i32_w]; rw [c87b0]) | (simp only [c87b2, Bool.not_true, Bool.not_false]) | (simp only [c87b1, Bool.not_true, Bool.not_false]) | skip)
                  have H' := Aside0.mk H
                  clear H
                  obtain ⟨z91_0, z91_1, z91_2, z91_3, z91_4, z91_5, z91_6, z91_7⟩ := ca8 BK232
                  obtain ⟨f91_0, f91_1, f91_2, f91_3, f91_4, f91_5, f91_6, f91_7⟩ := fa8 BK232
                  go_wp2
                  go_meet
                  case rel => exact ⟨_, ((a0_7 != 0)), ev, H', ⟨by have := HJ2.out; have := HJ26.out; have := HK3.out; have := HJ79.out; first | omega | exact Nat.le_refl _⟩, ⟨bk BK232⟩, ⟨bw⟩⟩
                case rest => as_aux_lemma =>
                 clear HC86
                 try clear c63
                 try clear c63b0
                 try clear c77
                 try clear c77b0
                 try clear c77b1
                 try clear c78
                 try clear c78b0
                 try clear c79
                 try clear c79b0
                 (try clear f28_0 f28_1 f28_2 f28_3 f28_4 f28_5 f28_6 f28_7)
                 (try clear f59_0 f59_1 f59_2 f59_3 f59_4 f59_5 f59_6 f59_7)
                 (try clear f61_0 f61_1 f61_2 f61_3 f61_4 f61_5 f61_6 f61_7)
                 try clear hx245_0
                 try clear hx246_0
                 try clear p245
                 try clear p246
                 try clear q245
                 try clear q246
                 obtain ⟨kq, x158_85, rfl, HA, HJ85, BK232, HB⟩ := hcut
                 cases kq with
                 | zero => exact absurd HA.out (by simp [spec_WarpOk.j5])
                 | succ kj85 =>
                  have H := HA.out
                  clear HA
                  simp only [spec_WarpOk.j5] at H
                  replace H := ib H
                  rcases H with ⟨rfl, H⟩ | ⟨rfl, H⟩
                  ·obtain rfl := Option.some.inj H
                   go_wp2
                   go_ret
                   exact ⟨rt, bw⟩
                  ·replace H := ib H
                   rcases H with ⟨rfl, H⟩ | ⟨rfl, H⟩
                   ·replace H := bn H
                    obtain ⟨t247, A94, H⟩ := H
                    try dsimp only at H
                    replace H := bn H
                    obtain ⟨t248, A95, H⟩ := H
                    try dsimp only at H
                    obtain rfl := Option.some.inj H
                    try go_wp2
                    replace BK232 := bd BK232
                    replace HB := hd HB
                    refine st0 6 (fun w' => CA w' gb232 0 [.int .i64 a0_0, .slice (some ad246) l0_1.length c0_1, .slice A0_2 l0_2.length c0_2, .int .u32 a0_3, .int .i64 a0_4, .int .i64 a0_5, .int .i64 a0_6, .int .u32 a0_7]) [] (cx BK232) ?_; intro hHeld
                    generalize wc.drew = w96 at BK232 HB hHeld ⊢
                    refine pu 1 162 (bl 6 2) ?_
                    refine pu 3 164 (bl 6 10) ?_
                    refine tk 0 161 (bl 6 11) ?_
                    refine on_ 2 (some 163) (bl 6 15) (fun K hK => ?_)
                    refine gq Tryz.func60 (spec_ChunksFor.calls _ _ _ A94.out) ?_
                    rintro e w' ⟨rfl, ⟨nd, rfl⟩⟩
                    refine ⟨_, rfl, ?_⟩
                    refine hK.out _ _ (cx BK232) (fun hHeld => ?_)
                    clear hK K
                    refine nm ?_
                    refine on_ 4 (some 165) (bl 6 31) (fun K hK => ?_)
                    refine gq Tryz.func59 (spec_l07LargeOk.calls _ _ (some ad246) c0_1 _ A0_2 c0_2 _ _ _ _ _ _ _ _ _ _ (cb HR0_1) HC0_1.out (cb HR0_2) HC0_2.out A95.out) ?_
                    rintro e w97 ⟨rfl, hb⟩
                    refine ⟨_, rfl, ?_⟩
                    replace BK232 := b_ BK232 hb
                    replace HB := hs hb
                    (try clear hb)
                    (try clear hb2)
                    (try clear hk)
                    (try clear hi)
                    refine hK.out _ _ (cx BK232) (fun hHeld => ?_)
                    clear hK K
                    refine nm ?_
                    refine pu 5 4 (bl 6 63) ?_
                    refine dn ?_ _
                    try go_wp2
                    go_ret
                    exact ⟨rt, bw⟩
                   ·replace H := ieq H
                    rcases H with ⟨c98b0, c98b1, H⟩ | ⟨c98, c98b0, c98b1, H⟩
                    ·replace H := ieq H
                     rcases H with ⟨c99b0, c99b1, H⟩ | ⟨c99, c99b0, c99b1, H⟩
                     ·replace H := ieq H
                      rcases H with ⟨c100b0, c100b1, H⟩ | ⟨c100, c100b0, c100b1, H⟩
                      ·obtain rfl := Option.some.inj H
                       obtain ⟨z101_0, z101_1, z101_2, z101_3, z101_4, z101_5, z101_6, z101_7⟩ := ca8 BK232
                       obtain ⟨f101_0, f101_1, f101_2, f101_3, f101_4, f101_5, f101_6, f101_7⟩ := fa8 BK232
                       try go_wp2
                       replace BK232 := bd BK232
                       replace HB := hd HB
                       refine st 28 (fun w' => CA w' gb232 0 [.int .i64 a0_0, .slice (some ad246) l0_1.length c0_1, .slice A0_2 l0_2.length c0_2, .int .u32 a0_3, .int .i64 a0_4, .int .i64 a0_5, .int .i64 a0_6, .int .u32 a0_7]) [] (cx BK232) spec_WarpOk.tab26 spec_WarpOk.bits26 ?_; intro hHeld HT_ HW_
                       generalize wc.drew = w102 at BK232 HB hHeld ⊢
                       refine pu 0 170 (bl 28 1) ?_
                       refine tk 1 171 (bl 28 3) ?_
                       refine pu 2 172 (bl 28 7) ?_
                       refine pu 3 173 (bl 28 15) ?_
                       refine pu 4 174 (bl 28 31) ?_
                       refine tk 5 175 (bl 28 63) ?_
                       refine pu 6 176 (bl 28 127) ?_
                       refine pu 7 177 (bl 28 255) ?_
                       refine pf 8 178 (bl 28 511) ?_
                       refine pf 9 179 (bl 28 1023) ?_
                       refine pf 10 180 (bl 28 2047) ?_
                       refine pf 11 181 (bl 28 4095) ?_
                       refine pf 12 182 (bl 28 8191) ?_
                       refine pf 13 183 (bl 28 16383) ?_
                       refine pf 14 184 (bl 28 32767) ?_
                       refine pf 15 185 (bl 28 65535) ?_
                       refine pf 16 186 (bl 28 131071) ?_
                       refine pf 17 187 (bl 28 262143) ?_
                       refine pf 18 188 (bl 28 524287) ?_
                       refine pf 19 189 (bl 28 1048575) ?_
                       refine pf 20 190 (bl 28 2097151) ?_
                       refine pf 21 191 (bl 28 4194303) ?_
                       refine pf 22 192 (bl 28 8388607) ?_
                       refine pf 23 193 (bl 28 16777215) ?_
                       refine pf 24 194 (bl 28 33554431) ?_
                       refine pu 25 195 (bl 28 67108863) ?_
                       refine pu 26 196 (bl 28 134217727) ?_
                       refine pu 27 4 (bl 28 268435455) ?_
                       refine dn ?_ _
                       try go_wp2
                       go_ret
                       exact ⟨rt, bw⟩
                      ·replace H := ieq H
                       rcases H with ⟨c103b0, c103b1, H⟩ | ⟨c103, c103b0, c103b1, H⟩
                       ·replace H := ilt H
                        rcases H with ⟨c104b0, H⟩ | ⟨c104b0, H⟩
                        ·replace H := bn H
                         obtain ⟨t249, A105, H⟩ := H
                         try dsimp only at H
                         replace H := bn H
                         obtain ⟨t250, A106, H⟩ := H
                         try dsimp only at H
                         obtain rfl := Option.some.inj H
                         obtain ⟨z107_0, z107_1, z107_2, z107_3, z107_4, z107_5, z107_6, z107_7⟩ := ca8 BK232
                         obtain ⟨f107_0, f107_1, f107_2, f107_3, f107_4, f107_5, f107_6, f107_7⟩ := fa8 BK232
                         try go_wp2
                         replace BK232 := bd BK232
                         replace HB := hd HB
                         refine st 28 (fun w' => CA w' gb232 0 [.int .i64 a0_0, .slice (some ad246) l0_1.length c0_1, .slice A0_2 l0_2.length c0_2, .int .u32 a0_3, .int .i64 a0_4, .int .i64 a0_5, .int .i64 a0_6, .int .u32 a0_7]) [] (cx BK232) spec_WarpOk.tab26 spec_WarpOk.bits26 ?_; intro hHeld HT_ HW_
                         generalize wc.drew = w108 at BK232 HB hHeld ⊢
                         refine pu 0 170 (bl 28 1) ?_
                         refine tk 1 171 (bl 28 3) ?_
                         refine pu 2 172 (bl 28 7) ?_
                         refine pu 3 173 (bl 28 15) ?_
                         refine pu 4 174 (bl 28 31) ?_
                         refine tk 5 175 (bl 28 63) ?_
                         refine pu 6 176 (bl 28 127) ?_
                         refine pu 7 177 (bl 28 255) ?_
                         refine pu 8 178 (bl 28 511) ?_
                         refine tk 9 179 (bl 28 1023) ?_
                         refine pu 10 180 (bl 28 2047) ?_
                         refine pu 11 181 (bl 28 4095) ?_
                         refine pu 12 182 (bl 28 8191) ?_
                         refine pu 14 184 (bl 28 24575) ?_
                         refine tk 13 183 (bl 28 32767) ?_
                         refine pu 15 185 (bl 28 65535) ?_
                         refine pu 16 186 (bl 28 131071) ?_
                         refine pu 17 187 (bl 28 262143) ?_
                         refine pu 18 188 (bl 28 524287) ?_
                         refine pu 20 190 (bl 28 1572863) ?_
                         refine tk 19 189 (bl 28 2097151) ?_
                         refine on_ 21 (some 191) (bl 28 4194303) (fun K hK => ?_)
                         refine gq Tryz.func62 (spec_ClassOf.calls _ _ _ _ A105.out) ?_
                         rintro e w' ⟨rfl, ⟨nd, rfl⟩⟩
                         refine ⟨_, rfl, ?_⟩
                         refine hK.out _ _ (cx BK232) (fun hHeld => ?_)
                         clear hK K
                         refine nm ?_
                         refine on_ 22 (some 192) (bl 28 8388607) (fun K hK => ?_)
                         refine gq Tryz.func61 (spec_Room.calls _ _ _ _ _ A106.out) ?_
                         rintro e w109 ⟨rfl, hb⟩
                         refine ⟨_, rfl, ?_⟩
                         replace BK232 := b_ BK232 hb
                         replace HB := hs hb
                         (try clear hb)
                         (try clear hb2)
                         (try clear hk)
                         (try clear hi)
                         refine hK.out _ _ (cx BK232) (fun hHeld => ?_)
                         clear hK K
                         refine nm ?_
                         refine pu 23 193 (bl 28 16777215) ?_
                         refine pu 24 194 (bl 28 33554431) ?_
                         refine pu 25 195 (bl 28 67108863) ?_
                         refine pu 26 196 (bl 28 134217727) ?_
                         refine pu 27 4 (bl 28 268435455) ?_
                         refine dn ?_ _
                         try go_wp2
                         go_ret
                         exact ⟨rt, bw⟩
                        ·obtain rfl := Option.some.inj H
                         obtain ⟨z110_0, z110_1, z110_2, z110_3, z110_4, z110_5, z110_6, z110_7⟩ := ca8 BK232
                         obtain ⟨f110_0, f110_1, f110_2, f110_3, f110_4, f110_5, f110_6, f110_7⟩ := fa8 BK232
                         try go_wp2
                         replace BK232 := bd BK232
                         replace HB := hd HB
                         refine st 28 (fun w' => CA w' gb232 0 [.int .i64 a0_0, .slice (some ad246) l0_1.length c0_1, .slice A0_2 l0_2.length c0_2, .int .u32 a0_3, .int .i64 a0_4, .int .i64 a0_5, .int .i64 a0_6, .int .u32 a0_7]) [] (cx BK232) spec_WarpOk.tab26 spec_WarpOk.bits26 ?_; intro hHeld HT_ HW_
                         generalize wc.drew = w111 at BK232 HB hHeld ⊢
                         refine pu 0 170 (bl 28 1) ?_
                         refine tk 1 171 (bl 28 3) ?_
                         refine pu 2 172 (bl 28 7) ?_
                         refine pu 3 173 (bl 28 15) ?_
                         refine pu 4 174 (bl 28 31) ?_
                         refine tk 5 175 (bl 28 63) ?_
                         refine pu 6 176 (bl 28 127) ?_
                         refine pu 7 177 (bl 28 255) ?_
                         refine pu 8 178 (bl 28 511) ?_
                         refine tk 9 179 (bl 28 1023) ?_
                         refine pu 10 180 (bl 28 2047) ?_
                         refine pu 11 181 (bl 28 4095) ?_
                         refine pu 12 182 (bl 28 8191) ?_
                         refine pu 14 184 (bl 28 24575) ?_
                         refine tk 13 183 (bl 28 32767) ?_
                         refine pu 15 185 (bl 28 65535) ?_
                         refine pu 16 186 (bl 28 131071) ?_
                         refine pu 17 187 (bl 28 262143) ?_
                         refine pf 18 188 (bl 28 524287) ?_
                         refine pf 19 189 (bl 28 1048575) ?_
                         refine pf 20 190 (bl 28 2097151) ?_
                         refine pf 21 191 (bl 28 4194303) ?_
                         refine pf 22 192 (bl 28 8388607) ?_
                         refine pf 23 193 (bl 28 16777215) ?_
                         refine pu 24 194 (bl 28 33554431) ?_
                         refine pu 25 195 (bl 28 67108863) ?_
                         refine pu 26 196 (bl 28 134217727) ?_
                         refine pu 27 4 (bl 28 268435455) ?_
                         refine dn ?_ _
                         try go_wp2
                         go_ret
                         exact ⟨rt, bw⟩
                       ·obtain rfl := Option.some.inj H
                        obtain ⟨z112_0, z112_1, z112_2, z112_3, z112_4, z112_5, z112_6, z112_7⟩ := ca8 BK232
                        obtain ⟨f112_0, f112_1, f112_2, f112_3, f112_4, f112_5, f112_6, f112_7⟩ := fa8 BK232
                        try go_wp2
                        replace BK232 := bd BK232
                        replace HB := hd HB
                        refine st 28 (fun w' => CA w' gb232 0 [.int .i64 a0_0, .slice (some ad246) l0_1.length c0_1, .slice A0_2 l0_2.length c0_2, .int .u32 a0_3, .int .i64 a0_4, .int .i64 a0_5, .int .i64 a0_6, .int .u32 a0_7]) [] (cx BK232) spec_WarpOk.tab26 spec_WarpOk.bits26 ?_; intro hHeld HT_ HW_
                        generalize wc.drew = w113 at BK232 HB hHeld ⊢
                        refine pu 0 170 (bl 28 1) ?_
                        refine tk 1 171 (bl 28 3) ?_
                        refine pu 2 172 (bl 28 7) ?_
                        refine pu 3 173 (bl 28 15) ?_
                        refine pu 4 174 (bl 28 31) ?_
                        refine tk 5 175 (bl 28 63) ?_
                        refine pu 6 176 (bl 28 127) ?_
                        refine pu 7 177 (bl 28 255) ?_
                        refine pu 8 178 (bl 28 511) ?_
                        refine tk 9 179 (bl 28 1023) ?_
                        refine pu 10 180 (bl 28 2047) ?_
                        refine pu 11 181 (bl 28 4095) ?_
                        refine pf 12 182 (bl 28 8191) ?_
                        refine pf 13 183 (bl 28 16383) ?_
                        refine pf 14 184 (bl 28 32767) ?_
                        refine pf 15 185 (bl 28 65535) ?_
                        refine pu 16 186 (bl 28 131071) ?_
                        refine pu 17 187 (bl 28 262143) ?_
                        refine pf 18 188 (bl 28 524287) ?_
                        refine pf 19 189 (bl 28 1048575) ?_
                        refine pf 20 190 (bl 28 2097151) ?_
                        refine pf 21 191 (bl 28 4194303) ?_
                        refine pf 22 192 (bl 28 8388607) ?_
                        refine pf 23 193 (bl 28 16777215) ?_
                        refine pu 24 194 (bl 28 33554431) ?_
                        refine pu 25 195 (bl 28 67108863) ?_
                        refine pu 26 196 (bl 28 134217727) ?_
                        refine pu 27 4 (bl 28 268435455) ?_
                        refine dn ?_ _
                        try go_wp2
                        go_ret
                        exact ⟨rt, bw⟩
                     ·obtain rfl := Option.some.inj H
                      obtain ⟨z114_0, z114_1, z114_2, z114_3, z114_4, z114_5, z114_6, z114_7⟩ := ca8 BK232
                      obtain ⟨f114_0, f114_1, f114_2, f114_3, f114_4, f114_5, f114_6, f114_7⟩ := fa8 BK232
                      try go_wp2
                      replace BK232 := bd BK232
                      replace HB := hd HB
                      refine st 28 (fun w' => CA w' gb232 0 [.int .i64 a0_0, .slice (some ad246) l0_1.length c0_1, .slice A0_2 l0_2.length c0_2, .int .u32 a0_3, .int .i64 a0_4, .int .i64 a0_5, .int .i64 a0_6, .int .u32 a0_7]) [] (cx BK232) spec_WarpOk.tab26 spec_WarpOk.bits26 ?_; intro hHeld HT_ HW_
                      generalize wc.drew = w115 at BK232 HB hHeld ⊢
                      refine pu 0 170 (bl 28 1) ?_
                      refine tk 1 171 (bl 28 3) ?_
                      refine pu 2 172 (bl 28 7) ?_
                      refine pu 3 173 (bl 28 15) ?_
                      refine pf 4 174 (bl 28 31) ?_
                      refine pf 5 175 (bl 28 63) ?_
                      refine pf 6 176 (bl 28 127) ?_
                      refine pf 7 177 (bl 28 255) ?_
                      refine pf 8 178 (bl 28 511) ?_
                      refine pf 9 179 (bl 28 1023) ?_
                      refine pf 10 180 (bl 28 2047) ?_
                      refine pf 11 181 (bl 28 4095) ?_
                      refine pf 12 182 (bl 28 8191) ?_
                      refine pf 13 183 (bl 28 16383) ?_
                      refine pf 14 184 (bl 28 32767) ?_
                      refine pf 15 185 (bl 28 65535) ?_
                      refine pf 16 186 (bl 28 131071) ?_
                      refine pf 17 187 (bl 28 262143) ?_
                      refine pf 18 188 (bl 28 524287) ?_
                      refine pf 19 189 (bl 28 1048575) ?_
                      refine pf 20 190 (bl 28 2097151) ?_
                      refine pf 21 191 (bl 28 4194303) ?_
                      refine pf 22 192 (bl 28 8388607) ?_
                      refine pf 23 193 (bl 28 16777215) ?_
                      refine pf 24 194 (bl 28 33554431) ?_
                      refine pf 25 195 (bl 28 67108863) ?_
                      refine pu 26 196 (bl 28 134217727) ?_
                      refine pu 27 4 (bl 28 268435455) ?_
                      refine dn ?_ _
                      try go_wp2
                      go_ret
                      exact ⟨rt, bw⟩
                    ·replace H := ieq H
                     rcases H with ⟨c116b0, c116b1, H⟩ | ⟨c116, c116b0, c116b1, H⟩
                     ·replace H := ieq H
                      rcases H with ⟨c117b0, c117b1, H⟩ | ⟨c117, c117b0, c117b1, H⟩
                      ·obtain rfl := Option.some.inj H
                       obtain ⟨z118_0, z118_1, z118_2, z118_3, z118_4, z118_5, z118_6, z118_7⟩ := ca8 BK232
                       obtain ⟨f118_0, f118_1, f118_2, f118_3, f118_4, f118_5, f118_6, f118_7⟩ := fa8 BK232
                       go_wp2
                       go_ret
                       exact ⟨rt, bw⟩
                      ·obtain rfl := Option.some.inj H
                       obtain ⟨z119_0, z119_1, z119_2, z119_3, z119_4, z119_5, z119_6, z119_7⟩ := ca8 BK232
                       obtain ⟨f119_0, f119_1, f119_2, f119_3, f119_4, f119_5, f119_6, f119_7⟩ := fa8 BK232
                       go_wp2
                       go_ret
                       exact ⟨rt, bw⟩
                     ·replace H := ieq H
                      rcases H with ⟨c120b0, c120b1, H⟩ | ⟨c120, c120b0, c120b1, H⟩
                      ·replace H := ieq H
                       rcases H with ⟨c121b0, c121b1, H⟩ | ⟨c121, c121b0, c121b1, H⟩
                       ·replace H := ieq H
                        rcases H with ⟨c122b0, c122b1, H⟩ | ⟨c122, c122b0, c122b1, H⟩
                        ·replace H := ilt H
                         rcases H with ⟨c123b0, H⟩ | ⟨c123b0, H⟩
                         ·replace H := bn H
                          obtain ⟨t251, A124, H⟩ := H
                          try dsimp only at H
                          obtain rfl := Option.some.inj H
                          obtain ⟨z125_0, z125_1, z125_2, z125_3, z125_4, z125_5, z125_6, z125_7⟩ := ca8 BK232
                          obtain ⟨f125_0, f125_1, f125_2, f125_3, f125_4, f125_5, f125_6, f125_7⟩ := fa8 BK232
                          go_wp2_with (first | (go_at_call 63; (with_reducible refine (spec_l07Gives.calls _ _ _ _ _ A124.out).mono ?_); rintro e w126 ⟨rfl, hb⟩; replace BK232 := b_ BK232 hb; replace HB := hs hb; try clear hb))
                          go_ret
                          exact ⟨rt, bw⟩
                         ·obtain rfl := Option.some.inj H
                          obtain ⟨z127_0, z127_1, z127_2, z127_3, z127_4, z127_5, z127_6, z127_7⟩ := ca8 BK232
                          obtain ⟨f127_0, f127_1, f127_2, f127_3, f127_4, f127_5, f127_6, f127_7⟩ := fa8 BK232
                          go_wp2
                          go_ret
                          exact ⟨rt, bw⟩
                        ·obtain rfl := Option.some.inj H
                         obtain ⟨z128_0, z128_1, z128_2, z128_3, z128_4, z128_5, z128_6, z128_7⟩ := ca8 BK232
                         obtain ⟨f128_0, f128_1, f128_2, f128_3, f128_4, f128_5, f128_6, f128_7⟩ := fa8 BK232
                         go_wp2
                         go_ret
                         exact ⟨rt, bw⟩
                       ·obtain rfl := Option.some.inj H
                        obtain ⟨z129_0, z129_1, z129_2, z129_3, z129_4, z129_5, z129_6, z129_7⟩ := ca8 BK232
                        obtain ⟨f129_0, f129_1, f129_2, f129_3, f129_4, f129_5, f129_6, f129_7⟩ := fa8 BK232
                        go_wp2
                        go_ret
                        exact ⟨rt, bw⟩
                      ·replace H := ieq H
                       rcases H with ⟨c130b0, c130b1, H⟩ | ⟨c130, c130b0, c130b1, H⟩
                       ·replace H := igt H
                        rcases H with ⟨c131b0, H⟩ | ⟨c131b0, H⟩
                        ·obtain rfl := Option.some.inj H
                         obtain ⟨z132_0, z132_1, z132_2, z132_3, z132_4, z132_5, z132_6, z132_7⟩ := ca8 BK232
                         obtain ⟨f132_0, f132_1, f132_2, f132_3, f132_4, f132_5, f132_6, f132_7⟩ := fa8 BK232
                         go_wp2
                         go_ret
                         exact ⟨rt, bw⟩
                        ·obtain rfl := Option.some.inj H
                         obtain ⟨z133_0, z133_1, z133_2, z133_3, z133_4, z133_5, z133_6, z133_7⟩ := ca8 BK232
                         obtain ⟨f133_0, f133_1, f133_2, f133_3, f133_4, f133_5, f133_6, f133_7⟩ := fa8 BK232
                         go_wp2
                         go_ret
                         exact ⟨rt, bw⟩
                       ·obtain rfl := Option.some.inj H
                        obtain ⟨z134_0, z134_1, z134_2, z134_3, z134_4, z134_5, z134_6, z134_7⟩ := ca8 BK232
                        obtain ⟨f134_0, f134_1, f134_2, f134_3, f134_4, f134_5, f134_6, f134_7⟩ := fa8 BK232
                        go_wp2
                        go_ret
                        exact ⟨rt, bw⟩
             ·rw [if_neg c79] at H
              exact absurd H (by simp)
            ·rw [if_neg c78] at H
             exact absurd H (by simp)
           ·rw [if_neg c77] at H
            exact absurd H (by simp)

end Go.Proofs.YtobboonnfocalaaGreatDoor.PG1
