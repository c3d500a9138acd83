/- What functions of the program compute, each as a Lean function, and that the run comes to just that. Conditions: none. (Laid by this session's own program.) -/
import Derived.Test.YtfhcnnkeokjfpaaDoorT
import Derived.Test.YtfhcnnkeokjfpaaDoorPB1x0
import Derived.Test.YtfhcnnkeokjfpaaDoorPB1x2
import Derived.Test.YtfhcnnkeokjfpaaDoorPB1x6
import Derived.Test.YtfhcnnkeokjfpaaDoorPB1x7
import Derived.Test.YtfhcnnkeokjfpaaDoorPB1x8
namespace Go.Proofs.YtfhcnnkeokjfpaaDoor.PB1
open Go.RowKit Go.Proofs.YtfhcnnkeokjfpaaDoorW.PrintWords Go.Proofs.YtfhcnnkeokjfpaaDoorW.PrintLast Go.Proofs.YtfhcnnkeokjfpaaDoorW.PrintMore Go.Proofs.YtfhcnnkeokjfpaaDoor.T
attribute [local go_sem] max2_int min2_int max_two min_two max_three min_three max_four min_four   -- for this text's walks alone
set_option linter.unusedVariables false
set_option linter.unusedSimpArgs false

/-! ### spec_l07Group: function 45 -/
mutual
def spec_l07Group.j0 : Nat → List Int → Bool → Int → List Int → List Int → Int → Int → Int → Int → Int → Option (List Int)
  | 0, _, _, _, _, _, _, _, _, _, _ => none
  | k + 1, x3, x21, x367000, x367001, x367002, x367003, x367004, x367005, x367006, x367007 => if x21 = true then (if 1 ≤ (x3.length : Int) then (some (x3.take (1 : Int).toNat)) else (none)) else (spec_l07Group.l0 k x3 (([] : List Int)) 0 x367000 x367001 x367002 x367003 x367004 x367005 x367006 x367007)
def spec_l07Group.l0 : Nat → List Int → List Int → Int → Int → List Int → List Int → Int → Int → Int → Int → Int → Option (List Int)
  | 0, _, _, _, _, _, _, _, _, _, _, _ => none
  | k + 1, x3, x4, x5, x367000, x367001, x367002, x367003, x367004, x367005, x367006, x367007 => if x5 < (x3.length : Int) then (if 0 ≤ x5 then (if 0 ≤ (rd x3 x5) then (if (rd x3 x5) < (x367001.length : Int) then ((spec_ClassOf.f k (rd x367001 (rd x3 x5))).bind fun t380 => (if 0 < (x3.length : Int) then (if 0 ≤ (rd x3 0) then (if (rd x3 0) < (x367001.length : Int) then ((spec_ClassOf.f k (rd x367001 (rd x3 0))).bind fun t383 => (if t380 = t383 then (if x4.length < 17592186044416 then (spec_l07Group.l0 k x3 (x4 ++ [rd x3 x5]) (wrap64 (x5 + 1)) x367000 x367001 x367002 x367003 x367004 x367005 x367006 x367007) else (none)) else (spec_l07Group.l0 k x3 x4 (wrap64 (x5 + 1)) x367000 x367001 x367002 x367003 x367004 x367005 x367006 x367007))) else (none)) else (none)) else (none))) else (none)) else (none)) else (none)) else (some x4)
end
def spec_l07Group.f (k : Nat) (a0_0 : Int) (l0_1 : List Int) (l0_2 : List Int) (a0_3 : Int) (a0_4 : Int) (a0_5 : Int) (a0_6 : Int) (a0_7 : Int) : Option (List Int) := (spec_BitList.f k a0_3).bind fun t367 => (if a0_0 = 2 then (spec_l07Group.j0 k t367 true a0_0 l0_1 l0_2 a0_3 a0_4 a0_5 a0_6 a0_7) else (if 0 < (t367.length : Int) then (if 0 ≤ (rd t367 0) then (if (rd t367 0) < (l0_1.length : Int) then (spec_l07Group.j0 k t367 (decide ((rd l0_1 (rd t367 0)) > 16)) a0_0 l0_1 l0_2 a0_3 a0_4 a0_5 a0_6 a0_7) else (none)) else (none)) else (none)))
theorem spec_l07Group.mono_l : ∀ k, (∀ y0 y1 y2 y3 y4 y5 y6 y7 y8 y9, LeO (spec_l07Group.j0 k y0 y1 y2 y3 y4 y5 y6 y7 y8 y9) (spec_l07Group.j0 (k + 1) y0 y1 y2 y3 y4 y5 y6 y7 y8 y9)) ∧ (∀ y0 y1 y2 y3 y4 y5 y6 y7 y8 y9 y10, LeO (spec_l07Group.l0 k y0 y1 y2 y3 y4 y5 y6 y7 y8 y9 y10) (spec_l07Group.l0 (k + 1) y0 y1 y2 y3 y4 y5 y6 y7 y8 y9 y10))
  | 0 => ⟨fun _ _ _ _ _ _ _ _ _ _ r h => by simp [spec_l07Group.j0] at h, fun _ _ _ _ _ _ _ _ _ _ _ r h => by simp [spec_l07Group.l0] at h⟩
  | k + 1 => by
    obtain ⟨ih0, ih1⟩ := spec_l07Group.mono_l k
    refine ⟨?_, ?_⟩
    · intro y0 y1 y2 y3 y4 y5 y6 y7 y8 y9
      unfold spec_l07Group.j0
      repeat' first
        | (with_reducible first | exact ih0 .. | exact ih1 .. | exact spec_BitList.mono .. | exact spec_ClassOf.mono .. | exact LeO.refl _ | exact LeO.none _ | refine LeO.ite ?_ ?_ | refine LeO.bind ?_ (fun _ => ?_))
        | exact LeO.none _ | refine LeO.ite ?_ ?_ | refine LeO.bind ?_ (fun _ => ?_)
    · intro y0 y1 y2 y3 y4 y5 y6 y7 y8 y9 y10
      unfold spec_l07Group.l0
      repeat' first
        | (with_reducible first | exact ih0 .. | exact ih1 .. | exact spec_BitList.mono .. | exact spec_ClassOf.mono .. | exact LeO.refl _ | exact LeO.none _ | refine LeO.ite ?_ ?_ | refine LeO.bind ?_ (fun _ => ?_))
        | exact LeO.none _ | refine LeO.ite ?_ ?_ | refine LeO.bind ?_ (fun _ => ?_)
theorem spec_l07Group.mono : ∀ a0 a1 a2 a3 a4 a5 a6 a7 k, LeO (spec_l07Group.f k a0 a1 a2 a3 a4 a5 a6 a7) (spec_l07Group.f (k + 1) a0 a1 a2 a3 a4 a5 a6 a7) := by
  intro a0 a1 a2 a3 a4 a5 a6 a7 k
  obtain ⟨ih0, ih1⟩ := spec_l07Group.mono_l k
  unfold spec_l07Group.f
  repeat' first
    | (with_reducible first | exact ih0 .. | exact ih1 .. | exact spec_BitList.mono .. | exact spec_ClassOf.mono .. | exact LeO.refl _ | exact LeO.none _ | refine LeO.ite ?_ ?_ | refine LeO.bind ?_ (fun _ => ?_))
    | exact LeO.none _ | refine LeO.ite ?_ ?_ | refine LeO.bind ?_ (fun _ => ?_)
set_option maxHeartbeats 8000000 in
set_option maxRecDepth 100000 in
theorem spec_l07Group.calls (k : Nat) (a0_0 : Int) (A0_1 : Option Addr) (c0_1 : Nat) (l0_1 : List Int) (A0_2 : Option Addr) (c0_2 : Nat) (l0_2 : List Int) (a0_3 : Int) (a0_4 : Int) (a0_5 : Int) (a0_6 : Int) (a0_7 : Int) (r : List Int) (w : World) (hr0_1 : Kd.C (Kd.int .i64) w A0_1 l0_1.length l0_1) (hc0_1 : l0_1.length ≤ c0_1) (hr0_2 : Kd.C (Kd.int .i64) w A0_2 l0_2.length l0_2) (hc0_2 : l0_2.length ≤ c0_2) (h : spec_l07Group.f k a0_0 l0_1 l0_2 a0_3 a0_4 a0_5 a0_6 a0_7 = some r) :
    Calls Tryd.prog 45 #[.agg #[.int .i64 a0_0, .slice A0_1 l0_1.length c0_1, .slice A0_2 l0_2.length c0_2, .int .u32 a0_3, .int .i64 a0_4, .int .i64 a0_5, .int .i64 a0_6, .int .u32 a0_7]] w fun e w' => ∃ v0_ : Value, e = .returned (v0_) ∧ Kd.R (Kd.int .i64) 3 w' w.heap.size (fun _ => True) v0_ r ∧ Below w.heap.size w w' := by
  have hu28 := Tryd.underlying28
  have HR0_1 := Aside0.mk hr0_1
  have HC0_1 := Aside0.mk hc0_1
  clear hr0_1 hc0_1
  have HR0_2 := Aside0.mk hr0_2
  have HC0_2 := Aside0.mk hc0_2
  clear hr0_2 hc0_2
  have HB := Aside0.mk (Below.refl w.heap.size w)
  unfold spec_l07Group.f at h
  have H := h
  clear h
  replace H := bn H
  obtain ⟨t367, A2, H⟩ := H
  try dsimp only at H
  have HC3 := Aside0.mk H
  clear H
  go_enter Tryd.func45, Tryd.ntmps45
  go_upto_region 2 with (first | ((with_reducible refine gd 1 ?_); refine bx 1 28 #[.int .i64 a0_0, .slice A0_1 l0_1.length c0_1, .slice A0_2 l0_2.length c0_2, .int .u32 a0_3, .int .i64 a0_4, .int .i64 a0_5, .int .i64 a0_6, .int .u32 a0_7] ?_; clear HB; intro gb366 w4 hg BK366 hb GE366 HB; clear hb hg; obtain ⟨z5_0, z5_1, z5_2, z5_3, z5_4, z5_5, z5_6, z5_7⟩ := ca8 BK366; obtain ⟨f5_0, f5_1, f5_2, f5_3, f5_4, f5_5, f5_6, f5_7⟩ := fa8 BK366) | (go_at_call 35; (with_reducible refine (spec_BitList.calls _ _ _ _ A2.out).mono ?_); rintro e w6 ⟨v368, rfl, ho0, hb⟩; have HO369 := Aside0.mk (Kd.R_lower ho0 (below_size bw)); replace BK366 := b_ BK366 hb; replace HB := hs hb; try clear hb; (try clear ho0)))
  repeat (go_quiet (first | ((with_reducible refine gd 1 ?_); refine bx 1 28 #[.int .i64 a0_0, .slice A0_1 l0_1.length c0_1, .slice A0_2 l0_2.length c0_2, .int .u32 a0_3, .int .i64 a0_4, .int .i64 a0_5, .int .i64 a0_6, .int .u32 a0_7] ?_; clear HB; intro gb366 w4 hg BK366 hb GE366 HB; clear hb hg; obtain ⟨z5_0, z5_1, z5_2, z5_3, z5_4, z5_5, z5_6, z5_7⟩ := ca8 BK366; obtain ⟨f5_0, f5_1, f5_2, f5_3, f5_4, f5_5, f5_6, f5_7⟩ := fa8 BK366) | (go_at_call 35; (with_reducible refine (spec_BitList.calls _ _ _ _ A2.out).mono ?_); rintro e w6 ⟨v368, rfl, ho0, hb⟩; have HO369 := Aside0.mk (Kd.R_lower ho0 (below_size bw)); replace BK366 := b_ BK366 hb; replace HB := hs hb; try clear hb; (try clear ho0))); go_upto_region 2 with (first | ((with_reducible refine gd 1 ?_); refine bx 1 28 #[.int .i64 a0_0, .slice A0_1 l0_1.length c0_1, .slice A0_2 l0_2.length c0_2, .int .u32 a0_3, .int .i64 a0_4, .int .i64 a0_5, .int .i64 a0_6, .int .u32 a0_7] ?_; clear HB; intro gb366 w4 hg BK366 hb GE366 HB; clear hb hg; obtain ⟨z5_0, z5_1, z5_2, z5_3, z5_4, z5_5, z5_6, z5_7⟩ := ca8 BK366; obtain ⟨f5_0, f5_1, f5_2, f5_3, f5_4, f5_5, f5_6, f5_7⟩ := fa8 BK366) | (go_at_call 35; (with_reducible refine (spec_BitList.calls _ _ _ _ A2.out).mono ?_); rintro e w6 ⟨v368, rfl, ho0, hb⟩; have HO369 := Aside0.mk (Kd.R_lower ho0 (below_size bw)); replace BK366 := b_ BK366 hb; replace HB := hs hb; try clear hb; (try clear ho0))))
  (try refine ap ?_)
  go_cut [21] (fun v21 wc => ∃ (kq : Nat) (x21_2 : Bool), v21 = .bool x21_2 ∧ Aside0 (spec_l07Group.j0 kq t367 x21_2 a0_0 l0_1 l0_2 a0_3 a0_4 a0_5 a0_6 a0_7 = some r) ∧ Aside0 (kq ≤ k) ∧ Aside0 (Kd.R (Kd.int .i64) 3 wc w.heap.size (fun _ => True) v368 t367) ∧ Aside0 (wc.heap[gb366]? = some (.cells #[.int .i64 a0_0, (.slice A0_1 l0_1.length c0_1), (.slice A0_2 l0_2.length c0_2), .int .u32 a0_3, .int .i64 a0_4, .int .i64 a0_5, .int .i64 a0_6, .int .u32 a0_7] 28 (0, 0))) ∧ Aside0 (Below w.heap.size w wc))
  case first =>
    have H := HC3.out
    clear HC3
    replace H := ieq H
    rcases H with ⟨c7b0, c7b1, H⟩ | ⟨c7, c7b0, c7b1, H⟩
    · (first | rw [c7b0] | (simp only [i64_w, i32_w]; rw [c7b0]) | (simp only [c7b2, Bool.not_true, Bool.not_false]) | (simp only [c7b1, Bool.not_true, Bool.not_false]) | skip)
      have H' := Aside0.mk H
      clear H
      obtain ⟨z8_0, z8_1, z8_2, z8_3, z8_4, z8_5, z8_6, z8_7⟩ := ca8 BK366
      obtain ⟨f8_0, f8_1, f8_2, f8_3, f8_4, f8_5, f8_6, f8_7⟩ := fa8 BK366
      go_wp2
      repeat (go_quiet (fail); try go_wp2)
      go_meet
      case rel => exact ⟨_, (true), ev, H', ⟨om⟩, ⟨ro HO369⟩, ⟨bk BK366⟩, ⟨bw⟩⟩
    · (first | rw [c7b0] | (simp only [i64_w, i32_w]; rw [c7b0]) | (simp only [c7b2, Bool.not_true, Bool.not_false]) | (simp only [c7b1, Bool.not_true, Bool.not_false]) | skip)
      by_cases c9 : 0 < (t367.length : Int)
      · rw [if_pos c9] at H
        have c9b0 : decide (0 < (t367.length : Int)) = true := decide_eq_true c9
        have c9b1 : decide (0 < t367.length) = true := decide_eq_true (by omega)
        clear c9
        by_cases c10 : 0 ≤ (rd t367 0)
        · rw [if_pos c10] at H
          have c10b0 : decide (0 ≤ (rd t367 0)) = true := decide_eq_true c10
          clear c10
          by_cases c11 : (rd t367 0) < (l0_1.length : Int)
          · rw [if_pos c11] at H
            have c11b0 : decide ((rd t367 0) < (l0_1.length : Int)) = true := decide_eq_true c11
            clear c11
            have H' := Aside0.mk H
            clear H
            obtain ⟨z12_0, z12_1, z12_2, z12_3, z12_4, z12_5, z12_6, z12_7⟩ := ca8 BK366
            obtain ⟨f12_0, f12_1, f12_2, f12_3, f12_4, f12_5, f12_6, f12_7⟩ := fa8 BK366
            obtain ⟨Ao13, co13, eo13⟩ := Kd.R_slice HO369.out
            subst eo13
            have p370 : 0 ≤ (0 : Int) := (by omega)
            have q370 : 0 < (t367.length : Int) := of_decide_eq_true as_
            obtain ⟨ad370, e370, hx370_0⟩ := Kd.at_int (Kd.R_reads' HO369.out).2.2 0 p370 q370
            cases e370
            have qi370 : (0 < t367.length) = True := eq_true (by omega)
            (try rw [show ((0 : Int)).toNat = 0 from rfl] at hx370_0)
            (try rw [Addr.add_zero'] at hx370_0)
            replace p370 := eq_true p370
            replace q370 := eq_true q370
            have p371 : 0 ≤ ((rd t367 0) : Int) := of_decide_eq_true as_
            have q371 : (rd t367 0) < (l0_1.length : Int) := of_decide_eq_true as_
            obtain ⟨ad371, e371, hx371_0⟩ := Kd.at_int HR0_1.out (rd t367 0) p371 q371
            cases e371
            replace hx371_0 := cl HB hx371_0
            replace p371 := eq_true p371
            replace q371 := eq_true q371
            go_wp2
            repeat (go_quiet (fail); try go_wp2)
            go_meet
            case rel => exact ⟨_, (decide ((rd l0_1 (rd t367 0)) > 16)), ev, H', ⟨om⟩, ⟨ro HO369⟩, ⟨bk BK366⟩, ⟨bw⟩⟩
          · rw [if_neg c11] at H
            exact absurd H (by simp)
        · rw [if_neg c10] at H
          exact absurd H (by simp)
      · rw [if_neg c9] at H
        exact absurd H (by simp)
  case rest =>
    clear HC3
    (try clear z5_0 z5_1 z5_2 z5_3 z5_4 z5_5 z5_6 z5_7)
    (try clear f5_0 f5_1 f5_2 f5_3 f5_4 f5_5 f5_6 f5_7)
    obtain ⟨kq, x21_2, rfl, HA, HJ2, HO_3, BK366, HB⟩ := hcut
    cases kq with
    | zero => exact absurd HA.out (by simp [spec_l07Group.j0])
    | succ kj2 =>
      have H := HA.out
      clear HA
      simp only [spec_l07Group.j0] at H
      replace H := ib H
      rcases H with ⟨rfl, H⟩ | ⟨rfl, H⟩
      · by_cases c15 : 1 ≤ (t367.length : Int)
        · rw [if_pos c15] at H
          have c15b0 := eq_true c15
          have c15b1 : decide (1 ≤ (t367.length : Int)) = true := decide_eq_true c15
          clear c15
          obtain ⟨y372, hy372⟩ : ∃ y_ : List Int, y_ = (t367.take (1 : Int).toNat) := ⟨_, rfl⟩
          rw [← hy372] at H
          have Ny372 := Aside0.mk hy372
          clear hy372
          obtain rfl := Option.some.inj H
          obtain ⟨Ao16, co16, eo16⟩ := Kd.R_slice HO_3.out
          subst eo16
          have q17 : (1 : Int) ≤ ((t367.length : Int) : Int) := of_decide_eq_true as_
          obtain ⟨i017, hi017, _, hsz17, _⟩ := info_parts info3
          have hcut17 := cut_to (P := Tryd.prog) 22 3 .i64 Tryd.underlying22 hi017 Ao16 t367.length co16 1 (by omega) q17 (Kd.R_reads' HO_3.out).2.1
          have hr17 := Kd.R_take (m := (1 : Int).toNat) HO_3.out (by omega)
          have hy17 : y372.length = (1 : Int).toNat := (by rw [Ny372.out, List.length_take]; omega)
          rw [← Ny372.out] at hr17
          rw [← hy17] at hr17 hcut17
          clear hy17 hi017 hsz17 HO_3
          have HO374 := Aside0.mk hr17
          clear hr17
          replace q17 := eq_true q17
          go_wp2
          repeat (go_quiet (fail); try go_wp2)
          go_ret
          exact ⟨_, rt, ro HO374, bw⟩
        · rw [if_neg c15] at H
          exact absurd H (by simp)
      · obtain ⟨y375, hy375⟩ : ∃ y_ : List Int, y_ = (([] : List Int)) := ⟨_, rfl⟩
        rw [← hy375] at H
        have Ny375 := Aside0.mk hy375
        clear hy375
        have H' := Aside0.mk H
        clear H
        go_wp2_with (first | ((with_reducible refine gate_dst (N := 24) rfl ?_); refine Kd.R_lit (Kd.int .i64) _ 3 ?hg (N := 24) ?hd (xs := ([] : List Int)) (inner := []) (ok := fun _ => True) (okp := fun _ => True) ?hr ?hp (fun _ hk => hk) trivial (Below.refl _ _) (Nat.le_refl _) (by simp) ?_; (case hd => rfl); (case hg => rfl); (case hr => first | (go_simp; done) | (go_simp; rfl)); (case hp => exact (Reps.none _ _)); intro v376 w18 ho19 hb hg_ hnew_; clear hg_ hnew_; (first | rw [← Ny375.out] at ho19 | (simp only [Int.reduceToNat] at ho19; rw [← Ny375.out] at ho19)); have HO377 := Aside0.mk (Kd.R_lower (Kd.R_new' ho19 (Kd.R_lt (ro HO_3))) (below_size bw)); replace HO_3 := Aside0.mk (Kd.R_elder' (ro HO_3) (Kd.R_base ho19) hb); replace BK366 := b_ BK366 hb; replace HB := hs hb; clear hb ho19))
        repeat (go_quiet (first | ((with_reducible refine gate_dst (N := 24) rfl ?_); refine Kd.R_lit (Kd.int .i64) _ 3 ?hg (N := 24) ?hd (xs := ([] : List Int)) (inner := []) (ok := fun _ => True) (okp := fun _ => True) ?hr ?hp (fun _ hk => hk) trivial (Below.refl _ _) (Nat.le_refl _) (by simp) ?_; (case hd => rfl); (case hg => rfl); (case hr => first | (go_simp; done) | (go_simp; rfl)); (case hp => exact (Reps.none _ _)); intro v376 w18 ho19 hb hg_ hnew_; clear hg_ hnew_; (first | rw [← Ny375.out] at ho19 | (simp only [Int.reduceToNat] at ho19; rw [← Ny375.out] at ho19)); have HO377 := Aside0.mk (Kd.R_lower (Kd.R_new' ho19 (Kd.R_lt (ro HO_3))) (below_size bw)); replace HO_3 := Aside0.mk (Kd.R_elder' (ro HO_3) (Kd.R_base ho19) hb); replace BK366 := b_ BK366 hb; replace HB := hs hb; clear hb ho19)); try go_wp2_with (first | ((with_reducible refine gate_dst (N := 24) rfl ?_); refine Kd.R_lit (Kd.int .i64) _ 3 ?hg (N := 24) ?hd (xs := ([] : List Int)) (inner := []) (ok := fun _ => True) (okp := fun _ => True) ?hr ?hp (fun _ hk => hk) trivial (Below.refl _ _) (Nat.le_refl _) (by simp) ?_; (case hd => rfl); (case hg => rfl); (case hr => first | (go_simp; done) | (go_simp; rfl)); (case hp => exact (Reps.none _ _)); intro v376 w18 ho19 hb hg_ hnew_; clear hg_ hnew_; (first | rw [← Ny375.out] at ho19 | (simp only [Int.reduceToNat] at ho19; rw [← Ny375.out] at ho19)); have HO377 := Aside0.mk (Kd.R_lower (Kd.R_new' ho19 (Kd.R_lt (ro HO_3))) (below_size bw)); replace HO_3 := Aside0.mk (Kd.R_elder' (ro HO_3) (Kd.R_base ho19) hb); replace BK366 := b_ BK366 hb; replace HB := hs hb; clear hb ho19)))
        go_loopg [4, 5] kj2 (fun kq v4 v5 w' => ∃ (x4_2 : List Int) (x5_2 : Int), v5 = .int .i64 x5_2 ∧ Aside0 (spec_l07Group.l0 kq t367 x4_2 x5_2 a0_0 l0_1 l0_2 a0_3 a0_4 a0_5 a0_6 a0_7 = some r) ∧ Aside0 (kq ≤ kj2) ∧ Aside0 (Kd.R (Kd.int .i64) 3 w' w.heap.size (fun k_ => some k_ ≠ (v4 : Value).ownBlock) v368 t367) ∧ Aside0 (Kd.R (Kd.int .i64) 3 w' w.heap.size (fun k_ => some k_ ≠ (v368 : Value).ownBlock) v4 x4_2) ∧ Aside0 (w'.heap[gb366]? = some (.cells #[.int .i64 a0_0, (.slice A0_1 l0_1.length c0_1), (.slice A0_2 l0_2.length c0_2), .int .u32 a0_3, .int .i64 a0_4, .int .i64 a0_5, .int .i64 a0_6, .int .u32 a0_7] 28 (0, 0))) ∧ Aside0 (Below w.heap.size w w'))
        case atStart => exact ⟨(y375), (0), ev, H', ⟨Nat.le_refl _⟩, ⟨by (with_reducible repeat (first | apply Kd.R_alloc | apply Kd.R_drewN | apply Kd.R_drew)); exact Kd.R_mono HO_3.out (fun _ hk => hk.2)⟩, ⟨by (with_reducible repeat (first | apply Kd.R_alloc | apply Kd.R_drewN | apply Kd.R_drew)); exact Kd.R_mono HO377.out (fun _ hk => hk.2)⟩, ⟨bk BK366⟩, ⟨bw⟩⟩
        case round =>
          clear H'
          try clear c14
          (try clear z5_0 z5_1 z5_2 z5_3 z5_4 z5_5 z5_6 z5_7)
          (try clear f5_0 f5_1 f5_2 f5_3 f5_4 f5_5 f5_6 f5_7)
          obtain ⟨x4_2, x5_2, rfl, HA, HK2, HO_3, HO_4, BK366, HB⟩ := hrel
          cases gk with
          | zero => exact absurd HA.out (by simp [spec_l07Group.l0])
          | succ k2 =>
            have H := HA.out
            clear HA
            simp only [spec_l07Group.l0] at H
            replace H := ilt H
            rcases H with ⟨c20b0, H⟩ | ⟨c20b0, H⟩
            · by_cases c21 : 0 ≤ x5_2
              · rw [if_pos c21] at H
                have c21b0 : decide (0 ≤ x5_2) = true := decide_eq_true c21
                clear c21
                by_cases c22 : 0 ≤ (rd t367 x5_2)
                · rw [if_pos c22] at H
                  have c22b0 : decide (0 ≤ (rd t367 x5_2)) = true := decide_eq_true c22
                  clear c22
                  by_cases c23 : (rd t367 x5_2) < (l0_1.length : Int)
                  · rw [if_pos c23] at H
                    have c23b0 : decide ((rd t367 x5_2) < (l0_1.length : Int)) = true := decide_eq_true c23
                    clear c23
                    replace H := bn H
                    obtain ⟨t380, A24, H⟩ := H
                    try dsimp only at H
                    by_cases c25 : 0 < (t367.length : Int)
                    · rw [if_pos c25] at H
                      have c25b0 : decide (0 < (t367.length : Int)) = true := decide_eq_true c25
                      have c25b1 : decide (0 < t367.length) = true := decide_eq_true (by omega)
                      clear c25
                      by_cases c26 : 0 ≤ (rd t367 0)
                      · rw [if_pos c26] at H
                        have c26b0 : decide (0 ≤ (rd t367 0)) = true := decide_eq_true c26
                        clear c26
                        by_cases c27 : (rd t367 0) < (l0_1.length : Int)
                        · rw [if_pos c27] at H
                          have c27b0 : decide ((rd t367 0) < (l0_1.length : Int)) = true := decide_eq_true c27
                          clear c27
                          replace H := bn H
                          obtain ⟨t383, A28, H⟩ := H
                          try dsimp only at H
                          have HU29 := Aside0.mk H
                          clear H
                          obtain ⟨Ao30, co30, eo30⟩ := Kd.R_slice HO_3.out
                          subst eo30
                          obtain ⟨z31_0, z31_1, z31_2, z31_3, z31_4, z31_5, z31_6, z31_7⟩ := ca8 BK366
                          obtain ⟨f31_0, f31_1, f31_2, f31_3, f31_4, f31_5, f31_6, f31_7⟩ := fa8 BK366
                          have p378 : 0 ≤ (x5_2 : Int) := of_decide_eq_true as_
                          have q378 : x5_2 < (t367.length : Int) := of_decide_eq_true as_
                          obtain ⟨ad378, e378, hx378_0⟩ := Kd.at_int (Kd.R_reads' HO_3.out).2.2 x5_2 p378 q378
                          cases e378
                          replace p378 := eq_true p378
                          replace q378 := eq_true q378
                          have p379 : 0 ≤ ((rd t367 x5_2) : Int) := of_decide_eq_true as_
                          have q379 : (rd t367 x5_2) < (l0_1.length : Int) := of_decide_eq_true as_
                          obtain ⟨ad379, e379, hx379_0⟩ := Kd.at_int HR0_1.out (rd t367 x5_2) p379 q379
                          cases e379
                          replace hx379_0 := cl HB hx379_0
                          replace p379 := eq_true p379
                          replace q379 := eq_true q379
                          go_upto_if 48 with (first | (go_at_call 39; (with_reducible refine (spec_ClassOf.calls _ _ _ _ A24.out).mono ?_); rintro e w' ⟨rfl, ⟨nd, rfl⟩⟩; (try first | exact ⟨rfl, _, World.drewN_drewN _ _ _⟩ | exact ⟨rfl, _, Eq.trans (World.drewN_drewN _ _ _) (congrArg (World.drewN _) (Nat.add_assoc _ _ _))⟩); have p381 : 0 ≤ (0 : Int) := (by omega); have q381 : 0 < (t367.length : Int) := of_decide_eq_true as_; obtain ⟨ad381, e381, hx381_0⟩ := Kd.at_int (Kd.R_reads' HO_3.out).2.2 0 p381 q381; obtain rfl : ad378 = ad381 := (by injection e381); have qi381 : (0 < t367.length) = True := eq_true (by omega); (try rw [show ((0 : Int)).toNat = 0 from rfl] at hx381_0); (try rw [Addr.add_zero'] at hx381_0); replace p381 := eq_true p381; replace q381 := eq_true q381; have p382 : 0 ≤ ((rd t367 0) : Int) := of_decide_eq_true as_; have q382 : (rd t367 0) < (l0_1.length : Int) := of_decide_eq_true as_; obtain ⟨ad382, e382, hx382_0⟩ := Kd.at_int HR0_1.out (rd t367 0) p382 q382; obtain rfl : ad379 = ad382 := (by injection e382); replace hx382_0 := cl HB hx382_0; replace p382 := eq_true p382; replace q382 := eq_true q382) | (go_at_call 39; (with_reducible refine (spec_ClassOf.calls _ _ _ _ A28.out).mono ?_); rintro e w' ⟨rfl, ⟨nd, rfl⟩⟩; (try first | exact ⟨rfl, _, World.drewN_drewN _ _ _⟩ | exact ⟨rfl, _, Eq.trans (World.drewN_drewN _ _ _) (congrArg (World.drewN _) (Nat.add_assoc _ _ _))⟩)))
                          repeat (go_quiet (first | (go_at_call 39; (with_reducible refine (spec_ClassOf.calls _ _ _ _ A24.out).mono ?_); rintro e w' ⟨rfl, ⟨nd, rfl⟩⟩; (try first | exact ⟨rfl, _, World.drewN_drewN _ _ _⟩ | exact ⟨rfl, _, Eq.trans (World.drewN_drewN _ _ _) (congrArg (World.drewN _) (Nat.add_assoc _ _ _))⟩); have p381 : 0 ≤ (0 : Int) := (by omega); have q381 : 0 < (t367.length : Int) := of_decide_eq_true as_; obtain ⟨ad381, e381, hx381_0⟩ := Kd.at_int (Kd.R_reads' HO_3.out).2.2 0 p381 q381; obtain rfl : ad378 = ad381 := (by injection e381); have qi381 : (0 < t367.length) = True := eq_true (by omega); (try rw [show ((0 : Int)).toNat = 0 from rfl] at hx381_0); (try rw [Addr.add_zero'] at hx381_0); replace p381 := eq_true p381; replace q381 := eq_true q381; have p382 : 0 ≤ ((rd t367 0) : Int) := of_decide_eq_true as_; have q382 : (rd t367 0) < (l0_1.length : Int) := of_decide_eq_true as_; obtain ⟨ad382, e382, hx382_0⟩ := Kd.at_int HR0_1.out (rd t367 0) p382 q382; obtain rfl : ad379 = ad382 := (by injection e382); replace hx382_0 := cl HB hx382_0; replace p382 := eq_true p382; replace q382 := eq_true q382) | (go_at_call 39; (with_reducible refine (spec_ClassOf.calls _ _ _ _ A28.out).mono ?_); rintro e w' ⟨rfl, ⟨nd, rfl⟩⟩; (try first | exact ⟨rfl, _, World.drewN_drewN _ _ _⟩ | exact ⟨rfl, _, Eq.trans (World.drewN_drewN _ _ _) (congrArg (World.drewN _) (Nat.add_assoc _ _ _))⟩))); go_upto_if 48 with (first | (go_at_call 39; (with_reducible refine (spec_ClassOf.calls _ _ _ _ A24.out).mono ?_); rintro e w' ⟨rfl, ⟨nd, rfl⟩⟩; (try first | exact ⟨rfl, _, World.drewN_drewN _ _ _⟩ | exact ⟨rfl, _, Eq.trans (World.drewN_drewN _ _ _) (congrArg (World.drewN _) (Nat.add_assoc _ _ _))⟩); have p381 : 0 ≤ (0 : Int) := (by omega); have q381 : 0 < (t367.length : Int) := of_decide_eq_true as_; obtain ⟨ad381, e381, hx381_0⟩ := Kd.at_int (Kd.R_reads' HO_3.out).2.2 0 p381 q381; obtain rfl : ad378 = ad381 := (by injection e381); have qi381 : (0 < t367.length) = True := eq_true (by omega); (try rw [show ((0 : Int)).toNat = 0 from rfl] at hx381_0); (try rw [Addr.add_zero'] at hx381_0); replace p381 := eq_true p381; replace q381 := eq_true q381; have p382 : 0 ≤ ((rd t367 0) : Int) := of_decide_eq_true as_; have q382 : (rd t367 0) < (l0_1.length : Int) := of_decide_eq_true as_; obtain ⟨ad382, e382, hx382_0⟩ := Kd.at_int HR0_1.out (rd t367 0) p382 q382; obtain rfl : ad379 = ad382 := (by injection e382); replace hx382_0 := cl HB hx382_0; replace p382 := eq_true p382; replace q382 := eq_true q382) | (go_at_call 39; (with_reducible refine (spec_ClassOf.calls _ _ _ _ A28.out).mono ?_); rintro e w' ⟨rfl, ⟨nd, rfl⟩⟩; (try first | exact ⟨rfl, _, World.drewN_drewN _ _ _⟩ | exact ⟨rfl, _, Eq.trans (World.drewN_drewN _ _ _) (congrArg (World.drewN _) (Nat.add_assoc _ _ _))⟩))))
                          (try refine ap ?_)
                          have H := HU29.out
                          clear HU29
                          replace H := ieq H
                          rcases H with ⟨c32b0, c32b1, H⟩ | ⟨c32, c32b0, c32b1, H⟩
                          · (first | rw [c32b0] | (simp only [i64_w, i32_w]; rw [c32b0]) | (simp only [c32b2, Bool.not_true, Bool.not_false]) | (simp only [c32b1, Bool.not_true, Bool.not_false]) | skip)
                            by_cases c33 : x4_2.length < 17592186044416
                            · rw [if_pos c33] at H
                              have LMc33 := Aside0.mk c33
                              clear c33
                              obtain ⟨y385, hy385⟩ : ∃ y_ : List Int, y_ = (x4_2 ++ [rd t367 x5_2]) := ⟨_, rfl⟩
                              rw [← hy385] at H
                              have Ny385 := Aside0.mk hy385
                              clear hy385
                              have H' := Aside0.mk H
                              clear H
                              have p384 : 0 ≤ (x5_2 : Int) := of_decide_eq_true as_
                              have q384 : x5_2 < (t367.length : Int) := of_decide_eq_true as_
                              obtain ⟨ad384, e384, hx384_0⟩ := Kd.at_int (Kd.R_reads' HO_3.out).2.2 x5_2 p384 q384
                              obtain rfl : ad378 = ad384 := (by injection e384)
                              replace p384 := eq_true p384
                              replace q384 := eq_true q384
                              go_wp2_with (first | ((with_reducible refine gate_builtin (b := .append) (xs := #[.tmp 49, .tmp 54]) rfl ?_); at_builtin; refine Kd.R_append (Kd.int .i64) (w0 := w) w.heap.size rfl (.tmp 49) (.tmp 54) 22 3 (.int .i64 0) 8 rfl Tryd.underlying22 info3 rfl (by decide) (by omega) u4 x4_2 (rd t367 x5_2) [.int .i64 (rd t367 x5_2)] (fun k_ => some k_ ≠ (.slice (some ad378) t367.length co30 : Value).ownBlock) (fun _ => False) rfl rfl ?aP (fun _ hk => hk.elim) ?aF ?aO ?aB ?aS ?aL ?_; (case aP => exact rfl); (case aB => exact bw); (case aF => exact (fun k_ hk => Kd.fresh' (Kd.R_lt (ro HO_3)) k_ hk)); (case aO => exact (ro HO_4)); (case aS => exact (below_size bw)); (case aL => have := LMc33.out; omega); intro v386 w34 ho hb hg hat; rw [← Ny385.out] at ho; replace HO_3 := Aside0.mk (Kd.R_after (ok := (fun _ => True)) (by (with_reducible repeat (first | apply Kd.R_alloc | apply Kd.R_drewN | apply Kd.R_drew)); exact Kd.R_mono HO_3.out (fun _ hk => ⟨trivial, hk⟩)) hg hat); replace BK366 := bg BK366 hg (Kd.R_ne HO_4.out BK366.out (by decide)); have HO387 := Aside0.mk (ho); replace HB := Aside0.mk (hb); clear HO_4; clear ho hb hg hat))
                              repeat (go_quiet (first | ((with_reducible refine gate_builtin (b := .append) (xs := #[.tmp 49, .tmp 54]) rfl ?_); at_builtin; refine Kd.R_append (Kd.int .i64) (w0 := w) w.heap.size rfl (.tmp 49) (.tmp 54) 22 3 (.int .i64 0) 8 rfl Tryd.underlying22 info3 rfl (by decide) (by omega) u4 x4_2 (rd t367 x5_2) [.int .i64 (rd t367 x5_2)] (fun k_ => some k_ ≠ (.slice (some ad378) t367.length co30 : Value).ownBlock) (fun _ => False) rfl rfl ?aP (fun _ hk => hk.elim) ?aF ?aO ?aB ?aS ?aL ?_; (case aP => exact rfl); (case aB => exact bw); (case aF => exact (fun k_ hk => Kd.fresh' (Kd.R_lt (ro HO_3)) k_ hk)); (case aO => exact (ro HO_4)); (case aS => exact (below_size bw)); (case aL => have := LMc33.out; omega); intro v386 w34 ho hb hg hat; rw [← Ny385.out] at ho; replace HO_3 := Aside0.mk (Kd.R_after (ok := (fun _ => True)) (by (with_reducible repeat (first | apply Kd.R_alloc | apply Kd.R_drewN | apply Kd.R_drew)); exact Kd.R_mono HO_3.out (fun _ hk => ⟨trivial, hk⟩)) hg hat); replace BK366 := bg BK366 hg (Kd.R_ne HO_4.out BK366.out (by decide)); have HO387 := Aside0.mk (ho); replace HB := Aside0.mk (hb); clear HO_4; clear ho hb hg hat)); try go_wp2_with (first | ((with_reducible refine gate_builtin (b := .append) (xs := #[.tmp 49, .tmp 54]) rfl ?_); at_builtin; refine Kd.R_append (Kd.int .i64) (w0 := w) w.heap.size rfl (.tmp 49) (.tmp 54) 22 3 (.int .i64 0) 8 rfl Tryd.underlying22 info3 rfl (by decide) (by omega) u4 x4_2 (rd t367 x5_2) [.int .i64 (rd t367 x5_2)] (fun k_ => some k_ ≠ (.slice (some ad378) t367.length co30 : Value).ownBlock) (fun _ => False) rfl rfl ?aP (fun _ hk => hk.elim) ?aF ?aO ?aB ?aS ?aL ?_; (case aP => exact rfl); (case aB => exact bw); (case aF => exact (fun k_ hk => Kd.fresh' (Kd.R_lt (ro HO_3)) k_ hk)); (case aO => exact (ro HO_4)); (case aS => exact (below_size bw)); (case aL => have := LMc33.out; omega); intro v386 w34 ho hb hg hat; rw [← Ny385.out] at ho; replace HO_3 := Aside0.mk (Kd.R_after (ok := (fun _ => True)) (by (with_reducible repeat (first | apply Kd.R_alloc | apply Kd.R_drewN | apply Kd.R_drew)); exact Kd.R_mono HO_3.out (fun _ hk => ⟨trivial, hk⟩)) hg hat); replace BK366 := bg BK366 hg (Kd.R_ne HO_4.out BK366.out (by decide)); have HO387 := Aside0.mk (ho); replace HB := Aside0.mk (hb); clear HO_4; clear ho hb hg hat)))
                              go_roundg k2
                              case measure => have := HJ2.out; have := HK2.out; omega
                              case rel => exact ⟨(y385), (wrap64 (x5_2 + 1)), ev, H', ⟨by have := HJ2.out; have := HK2.out; omega⟩, ⟨by (with_reducible repeat (first | apply Kd.R_alloc | apply Kd.R_drewN | apply Kd.R_drew)); exact Kd.R_mono HO_3.out (fun _ hk => hk.2)⟩, ⟨ro HO387⟩, ⟨bk BK366⟩, ⟨bw⟩⟩
                            · rw [if_neg c33] at H
                              exact absurd H (by simp)
                          · (first | rw [c32b0] | (simp only [i64_w, i32_w]; rw [c32b0]) | (simp only [c32b2, Bool.not_true, Bool.not_false]) | (simp only [c32b1, Bool.not_true, Bool.not_false]) | skip)
                            have H' := Aside0.mk H
                            clear H
                            go_wp2
                            repeat (go_quiet (fail); try go_wp2)
                            go_roundg k2
                            case measure => have := HJ2.out; have := HK2.out; omega
                            case rel => exact ⟨(x4_2), (wrap64 (x5_2 + 1)), ev, H', ⟨by have := HJ2.out; have := HK2.out; omega⟩, ⟨ro HO_3⟩, ⟨ro HO_4⟩, ⟨bk BK366⟩, ⟨bw⟩⟩
                        · rw [if_neg c27] at H
                          exact absurd H (by simp)
                      · rw [if_neg c26] at H
                        exact absurd H (by simp)
                    · rw [if_neg c25] at H
                      exact absurd H (by simp)
                  · rw [if_neg c23] at H
                    exact absurd H (by simp)
                · rw [if_neg c22] at H
                  exact absurd H (by simp)
              · rw [if_neg c21] at H
                exact absurd H (by simp)
            · obtain rfl := Option.some.inj H
              obtain ⟨Ao35, co35, eo35⟩ := Kd.R_slice HO_3.out
              subst eo35
              go_wp2
              repeat (go_quiet (fail); try go_wp2)
              go_ret
              exact ⟨_, rt, by (with_reducible repeat (first | apply Kd.R_alloc | apply Kd.R_drewN | apply Kd.R_drew)); exact Kd.R_mono HO_4.out (fun _ hk => trivial), bw⟩

/-! ### spec_WarpGroup: function 13 -/
def spec_WarpGroup.j0 : Nat → Bool → Int → List Int → List Int → Int → Int → Int → Int → Int → Option (Int)
  | 0, _, _, _, _, _, _, _, _, _ => none
  | k + 1, x12, x389000, x389001, x389002, x389003, x389004, x389005, x389006, x389007 => if x12 = true then (some 0) else ((spec_l07Group.f k x389000 x389001 x389002 x389003 x389004 x389005 x389006 x389007).bind fun t390 => ((spec_BitsOf.f k t390).bind fun bt393 => (some bt393.1)))
def spec_WarpGroup.f (k : Nat) (a0_0 : Int) (l0_1 : List Int) (l0_2 : List Int) (a0_3 : Int) (a0_4 : Int) (a0_5 : Int) (a0_6 : Int) (a0_7 : Int) : Option (Int) := (spec_WarpOk.f k a0_0 l0_1 l0_2 a0_3 a0_4 a0_5 a0_6 a0_7 16).bind fun t389 => (if t389 = true then (spec_WarpGroup.j0 k (a0_3 == 0) a0_0 l0_1 l0_2 a0_3 a0_4 a0_5 a0_6 a0_7) else (spec_WarpGroup.j0 k true a0_0 l0_1 l0_2 a0_3 a0_4 a0_5 a0_6 a0_7))
theorem spec_WarpGroup.mono_l : ∀ k, (∀ y0 y1 y2 y3 y4 y5 y6 y7 y8, LeO (spec_WarpGroup.j0 k y0 y1 y2 y3 y4 y5 y6 y7 y8) (spec_WarpGroup.j0 (k + 1) y0 y1 y2 y3 y4 y5 y6 y7 y8))
  | 0 => fun _ _ _ _ _ _ _ _ _ r h => by simp [spec_WarpGroup.j0] at h
  | k + 1 => by
    have ih0 := spec_WarpGroup.mono_l k
    · intro y0 y1 y2 y3 y4 y5 y6 y7 y8
      unfold spec_WarpGroup.j0
      repeat' first
        | (with_reducible first | exact ih0 .. | exact spec_BitsOf.mono .. | exact spec_WarpOk.mono .. | exact spec_l07Group.mono .. | exact LeO.refl _ | exact LeO.none _ | refine LeO.ite ?_ ?_ | refine LeO.bind ?_ (fun _ => ?_))
        | exact LeO.none _ | refine LeO.ite ?_ ?_ | refine LeO.bind ?_ (fun _ => ?_)
theorem spec_WarpGroup.mono : ∀ a0 a1 a2 a3 a4 a5 a6 a7 k, LeO (spec_WarpGroup.f k a0 a1 a2 a3 a4 a5 a6 a7) (spec_WarpGroup.f (k + 1) a0 a1 a2 a3 a4 a5 a6 a7) := by
  intro a0 a1 a2 a3 a4 a5 a6 a7 k
  have ih0 := spec_WarpGroup.mono_l k
  unfold spec_WarpGroup.f
  repeat' first
    | (with_reducible first | exact ih0 .. | exact spec_BitsOf.mono .. | exact spec_WarpOk.mono .. | exact spec_l07Group.mono .. | exact LeO.refl _ | exact LeO.none _ | refine LeO.ite ?_ ?_ | refine LeO.bind ?_ (fun _ => ?_))
    | exact LeO.none _ | refine LeO.ite ?_ ?_ | refine LeO.bind ?_ (fun _ => ?_)
set_option maxHeartbeats 8000000 in
set_option maxRecDepth 100000 in
theorem spec_WarpGroup.calls (k : Nat) (a0_0 : Int) (A0_1 : Option Addr) (c0_1 : Nat) (l0_1 : List Int) (A0_2 : Option Addr) (c0_2 : Nat) (l0_2 : List Int) (a0_3 : Int) (a0_4 : Int) (a0_5 : Int) (a0_6 : Int) (a0_7 : Int) (r : Int) (w : World) (hr0_1 : Kd.C (Kd.int .i64) w A0_1 l0_1.length l0_1) (hc0_1 : l0_1.length ≤ c0_1) (hr0_2 : Kd.C (Kd.int .i64) w A0_2 l0_2.length l0_2) (hc0_2 : l0_2.length ≤ c0_2) (h : spec_WarpGroup.f k a0_0 l0_1 l0_2 a0_3 a0_4 a0_5 a0_6 a0_7 = some r) :
    Calls Tryd.prog 13 #[.agg #[.int .i64 a0_0, .slice A0_1 l0_1.length c0_1, .slice A0_2 l0_2.length c0_2, .int .u32 a0_3, .int .i64 a0_4, .int .i64 a0_5, .int .i64 a0_6, .int .u32 a0_7]] w fun e w' => e = .returned (.int .u32 r) ∧ Below w.heap.size w w' := by
  have hu28 := Tryd.underlying28
  have HR0_1 := Aside0.mk hr0_1
  have HC0_1 := Aside0.mk hc0_1
  clear hr0_1 hc0_1
  have HR0_2 := Aside0.mk hr0_2
  have HC0_2 := Aside0.mk hc0_2
  clear hr0_2 hc0_2
  have HB := Aside0.mk (Below.refl w.heap.size w)
  unfold spec_WarpGroup.f at h
  have H := h
  clear h
  have HC2 := Aside0.mk H
  clear H
  go_enter Tryd.func13, Tryd.ntmps13
  go_upto_region 1 with (first | ((with_reducible refine gd 1 ?_); refine bx 1 28 #[.int .i64 a0_0, .slice A0_1 l0_1.length c0_1, .slice A0_2 l0_2.length c0_2, .int .u32 a0_3, .int .i64 a0_4, .int .i64 a0_5, .int .i64 a0_6, .int .u32 a0_7] ?_; clear HB; intro gb388 w3 hg BK388 hb GE388 HB; clear hb hg))
  (try refine ap ?_)
  go_cut [12] (fun v12 wc => ∃ (kq : Nat) (x12_1 : Bool), v12 = .bool x12_1 ∧ Aside0 (spec_WarpGroup.j0 kq x12_1 a0_0 l0_1 l0_2 a0_3 a0_4 a0_5 a0_6 a0_7 = some r) ∧ Aside0 (kq ≤ k) ∧ Aside0 (wc.heap[gb388]? = some (.cells #[.int .i64 a0_0, (.slice A0_1 l0_1.length c0_1), (.slice A0_2 l0_2.length c0_2), .int .u32 a0_3, .int .i64 a0_4, .int .i64 a0_5, .int .i64 a0_6, .int .u32 a0_7] 28 (0, 0))) ∧ Aside0 (Below w.heap.size w wc))
  case first =>
    have H := HC2.out
    clear HC2
    replace H := bn H
    obtain ⟨t389, A4, H⟩ := H
    try dsimp only at H
    replace H := ib H
    rcases H with ⟨rfl, H⟩ | ⟨rfl, H⟩
    · (try simp only [Bool.not_true, Bool.not_false])
      have H' := Aside0.mk H
      clear H
      obtain ⟨z6_0, z6_1, z6_2, z6_3, z6_4, z6_5, z6_6, z6_7⟩ := ca8 BK388
      obtain ⟨f6_0, f6_1, f6_2, f6_3, f6_4, f6_5, f6_6, f6_7⟩ := fa8 BK388
      go_wp2_with (first | ((with_reducible refine gf 9 ?_); refine gc Tryd.func9 (some 6) (spec_WarpOk.calls _ _ A0_1 c0_1 _ A0_2 c0_2 _ _ _ _ _ _ _ _ _ (cb HR0_1) HC0_1.out (cb HR0_2) HC0_2.out A4.out) ?_; rintro e w7 ⟨rfl, hb⟩; refine ⟨_, rfl, ?_⟩; replace BK388 := b_ BK388 hb; replace HB := hs hb; try clear hb; obtain ⟨z8_0, z8_1, z8_2, z8_3, z8_4, z8_5, z8_6, z8_7⟩ := ca8 BK388; obtain ⟨f8_0, f8_1, f8_2, f8_3, f8_4, f8_5, f8_6, f8_7⟩ := fa8 BK388))
      go_meet
      case rel => exact ⟨_, ((a0_3 == 0)), ev, H', ⟨om⟩, ⟨bk BK388⟩, ⟨bw⟩⟩
    · (try simp only [Bool.not_true, Bool.not_false])
      have H' := Aside0.mk H
      clear H
      obtain ⟨z9_0, z9_1, z9_2, z9_3, z9_4, z9_5, z9_6, z9_7⟩ := ca8 BK388
      obtain ⟨f9_0, f9_1, f9_2, f9_3, f9_4, f9_5, f9_6, f9_7⟩ := fa8 BK388
      go_wp2_with (first | ((with_reducible refine gf 9 ?_); refine gc Tryd.func9 (some 6) (spec_WarpOk.calls _ _ A0_1 c0_1 _ A0_2 c0_2 _ _ _ _ _ _ _ _ _ (cb HR0_1) HC0_1.out (cb HR0_2) HC0_2.out A4.out) ?_; rintro e w10 ⟨rfl, hb⟩; refine ⟨_, rfl, ?_⟩; replace BK388 := b_ BK388 hb; replace HB := hs hb; try clear hb))
      go_meet
      case rel => exact ⟨_, (true), ev, H', ⟨om⟩, ⟨bk BK388⟩, ⟨bw⟩⟩
  case rest =>
    clear HC2
    obtain ⟨kq, x12_1, rfl, HA, HJ1, BK388, HB⟩ := hcut
    cases kq with
    | zero => exact absurd HA.out (by simp [spec_WarpGroup.j0])
    | succ kj1 =>
      have H := HA.out
      clear HA
      simp only [spec_WarpGroup.j0] at H
      replace H := ib H
      rcases H with ⟨rfl, H⟩ | ⟨rfl, H⟩
      · obtain rfl := Option.some.inj H
        go_wp2
        go_ret
        exact ⟨rt, bw⟩
      · replace H := bn H
        obtain ⟨t390, A12, H⟩ := H
        try dsimp only at H
        replace H := bn H
        obtain ⟨⟨t393, t394⟩, A13, H⟩ := H
        try dsimp only at H
        obtain rfl := Option.some.inj H
        obtain ⟨z14_0, z14_1, z14_2, z14_3, z14_4, z14_5, z14_6, z14_7⟩ := ca8 BK388
        obtain ⟨f14_0, f14_1, f14_2, f14_3, f14_4, f14_5, f14_6, f14_7⟩ := fa8 BK388
        go_wp2_with (first | ((with_reducible refine gf 45 ?_); refine gc Tryd.func45 (some 15) (spec_l07Group.calls _ _ A0_1 c0_1 _ A0_2 c0_2 _ _ _ _ _ _ _ _ (cb HR0_1) HC0_1.out (cb HR0_2) HC0_2.out A12.out) ?_; rintro e w15 ⟨v391, rfl, ho0, hb⟩; refine ⟨_, rfl, ?_⟩; have HO392 := Aside0.mk (Kd.R_lower ho0 (below_size bw)); replace BK388 := b_ BK388 hb; replace HB := hs hb; try clear hb; (try clear ho0); obtain ⟨Ao16, co16, eo16⟩ := Kd.R_slice HO392.out; subst eo16) | ((with_reducible refine gf 44 ?_); refine gc Tryd.func44 (some 16) (spec_BitsOf.calls _ Ao16 co16 _ _ _ _ (cr HO392) ((Kd.R_reads' HO392.out).2.1) A13.out) ?_; rintro e w17 ⟨rfl, hb⟩; refine ⟨_, rfl, ?_⟩; replace HO392 := Aside0.mk (Kd.R_below (ro HO392) hb); replace BK388 := b_ BK388 hb; replace HB := hs hb; try clear hb))
        go_ret
        exact ⟨rt, bw⟩

/-! ### impl_BitList: function 80 -/
def impl_BitList.l0 : Nat → Int → List Int → Int → Option (List Int)
  | 0, _, _, _ => none
  | k + 1, x0, x3, x5 => if x5 < 32 then (if 0 ≤ x5 then (if (Go.bits .and .u32 (shr .u32 x0 x5) 1) = 1 then (if x3.length < 17592186044416 then (impl_BitList.l0 k x0 (x3 ++ [x5]) (wrap64 (x5 + 1))) else (none)) else (impl_BitList.l0 k x0 x3 (wrap64 (x5 + 1)))) else (none)) else (some x3)
def impl_BitList.f (k : Nat) (a0 : Int) : Option (List Int) := impl_BitList.l0 k a0 ([] : List Int) 0
theorem impl_BitList.mono_l : ∀ k, (∀ y0 y1 y2, LeO (impl_BitList.l0 k y0 y1 y2) (impl_BitList.l0 (k + 1) y0 y1 y2))
  | 0 => fun _ _ _ r h => by simp [impl_BitList.l0] at h
  | k + 1 => by
    have ih0 := impl_BitList.mono_l k
    · intro y0 y1 y2
      unfold impl_BitList.l0
      repeat' first
        | (with_reducible first | exact ih0 .. | exact LeO.refl _ | exact LeO.none _ | refine LeO.ite ?_ ?_ | refine LeO.bind ?_ (fun _ => ?_))
        | exact LeO.none _ | refine LeO.ite ?_ ?_ | refine LeO.bind ?_ (fun _ => ?_)
theorem impl_BitList.mono : ∀ a0 k, LeO (impl_BitList.f k a0) (impl_BitList.f (k + 1) a0) := by
  intro a0 k
  have ih0 := impl_BitList.mono_l k
  unfold impl_BitList.f
  repeat' first
    | (with_reducible first | exact ih0 .. | exact LeO.refl _ | exact LeO.none _ | refine LeO.ite ?_ ?_ | refine LeO.bind ?_ (fun _ => ?_))
    | exact LeO.none _ | refine LeO.ite ?_ ?_ | refine LeO.bind ?_ (fun _ => ?_)
set_option maxHeartbeats 8000000 in
set_option maxRecDepth 100000 in
theorem impl_BitList.calls (k : Nat) (a0 : Int) (r : List Int) (w : World) (h : impl_BitList.f k a0 = some r) :
    Calls Tryd.prog 80 #[.int .u32 a0] w fun e w' => ∃ v0_ : Value, e = .returned (v0_) ∧ Kd.R (Kd.int .i64) 3 w' w.heap.size (fun _ => True) v0_ r ∧ Below w.heap.size w w' := by
  have HB := Aside0.mk (Below.refl w.heap.size w)
  unfold impl_BitList.f at h
  have H := h
  clear h
  have H' := Aside0.mk H
  clear H
  go_enter Tryd.func80, Tryd.ntmps80
  go_wp2
  go_loopg [3, 5] k (fun kq v3 v5 w' => ∃ (x3_1 : List Int) (x5_1 : Int), v5 = .int .i64 x5_1 ∧ Aside0 (impl_BitList.l0 kq a0 x3_1 x5_1 = some r) ∧ Aside0 (kq ≤ k) ∧ Aside0 (Kd.R (Kd.int .i64) 3 w' w.heap.size (fun _ => True) v3 x3_1) ∧ Aside0 (Below w.heap.size w w'))
  case atStart => exact ⟨(([] : List Int)), (0), ev, H', ⟨Nat.le_refl _⟩, ⟨by first | exact Kd.R_nil _ _ _ _ _ | exact Kd.N_nil _ _ _ _ _ | exact Kd.V_nil _ _ _ _ _ | exact Kd.Q_nil _ _ _ _ _ | exact Kd.S_nil _ _ _ _ _⟩, ⟨bw⟩⟩
  case round =>
    clear H'
    obtain ⟨x3_1, x5_1, rfl, HA, HK1, HO_3, HB⟩ := hrel
    cases gk with
    | zero => exact absurd HA.out (by simp [impl_BitList.l0])
    | succ k1 =>
      have H := HA.out
      clear HA
      simp only [impl_BitList.l0] at H
      replace H := ilt H
      rcases H with ⟨c2b0, H⟩ | ⟨c2b0, H⟩
      · by_cases c3 : 0 ≤ x5_1
        · rw [if_pos c3] at H
          have c3b0 := eq_true c3
          have c3b1 : decide (0 ≤ x5_1) = true := decide_eq_true c3
          clear c3
          obtain ⟨ji4, hji4⟩ : ∃ j_ : Int, (shr .u32 a0 x5_1) = j_ := ⟨_, rfl⟩
          first | rw [hji4] at H | simp only [hji4] at H
          have hji4_ : (a0 / 2 ^ min x5_1.toNat 32) = ji4 := hji4
          have hji4z : x5_1 ≤ 32 → (a0 / 2 ^ x5_1.toNat) = ji4 := shr_small hji4
          replace H := ieq H
          rcases H with ⟨c5b0, c5b1, H⟩ | ⟨c5, c5b0, c5b1, H⟩
          · by_cases c6 : x3_1.length < 17592186044416
            · rw [if_pos c6] at H
              have LMc6 := Aside0.mk c6
              clear c6
              obtain ⟨y395, hy395⟩ : ∃ y_ : List Int, y_ = (x3_1 ++ [x5_1]) := ⟨_, rfl⟩
              rw [← hy395] at H
              have Ny395 := Aside0.mk hy395
              clear hy395
              have H' := Aside0.mk H
              clear H
              go_wp2_with (first | ((with_reducible refine gate_builtin (b := .append) (xs := #[.tmp 13, .tmp 15]) rfl ?_); at_builtin; refine Kd.R_append (Kd.int .i64) (w0 := w) w.heap.size rfl (.tmp 13) (.tmp 15) 22 3 (.int .i64 0) 8 rfl Tryd.underlying22 info3 rfl (by decide) (by omega) u3 x3_1 x5_1 [.int .i64 x5_1] (fun _ => True) (fun _ => False) rfl rfl ?aP (fun _ hk => hk.elim) ?aF ?aO ?aB ?aS ?aL ?_; (case aP => exact rfl); (case aB => exact bw); (case aF => exact (fun _ _ => trivial)); (case aO => exact (ro HO_3)); (case aS => exact (below_size bw)); (case aL => have := LMc6.out; omega); intro v396 w7 ho hb hg hat; rw [← Ny395.out] at ho; have HO397 := Aside0.mk (ho); replace HB := Aside0.mk (hb); clear HO_3; clear ho hb hg hat))
              go_roundg k1
              case measure => have := HK1.out; omega
              case rel => exact ⟨(y395), (wrap64 (x5_1 + 1)), ev, H', ⟨oa HK1⟩, ⟨ro HO397⟩, ⟨bw⟩⟩
            · rw [if_neg c6] at H
              exact absurd H (by simp)
          · have H' := Aside0.mk H
            clear H
            go_wp2
            go_roundg k1
            case measure => have := HK1.out; omega
            case rel => exact ⟨(x3_1), (wrap64 (x5_1 + 1)), ev, H', ⟨oa HK1⟩, ⟨ro HO_3⟩, ⟨bw⟩⟩
        · rw [if_neg c3] at H
          exact absurd H (by simp)
      · obtain rfl := Option.some.inj H
        go_wp2
        go_ret
        exact ⟨_, rt, ro HO_3, bw⟩

end Go.Proofs.YtfhcnnkeokjfpaaDoor.PB1
