/- What functions of the program compute, each as a Lean function, and that the run comes to just that. Conditions: none. -/
import Derived.Test.YtfhcnnkeokjfpaaDoorTS1
import Derived.Test.YtfhcnnkeokjfpaaDoorT2S1
import Derived.Test.YtfhcnnkeokjfpaaDoorPS1x0
import Derived.Test.YtfhcnnkeokjfpaaDoorPS1x2
import Derived.Test.YtfhcnnkeokjfpaaDoorPS1x4
import Derived.Test.YtfhcnnkeokjfpaaDoorCloneIntS1
import Derived.Test.YtfhcnnkeokjfpaaDoorIsReqS1
import Derived.Test.YtfhcnnkeokjfpaaDoorWNewS1
namespace Go.Proofs.YtfhcnnkeokjfpaaDoor.PS1
open Go.RowKit Go.Proofs.YtfhcnnkeokjfpaaDoorW.PrintWords Go.Proofs.YtfhcnnkeokjfpaaDoorW.PrintLast Go.Proofs.YtfhcnnkeokjfpaaDoorW.PrintMore Go.Proofs.YtfhcnnkeokjfpaaDoor.T
attribute [local go_sem] max2_int min2_int max_two min_two max_three min_three max_four min_four   -- for this text's walks alone
set_option linter.unusedVariables false
set_option linter.unusedSimpArgs false

/-! ### impl_submitted: function 49 -/
def impl_submitted.f (k : Nat) (a0_0 : Int) (l0_1 : List Int) : Option (Int × List Int × List Int × Int × Int × Int × Int × Int) := (impl_warpNew.f).bind fun bt507 => ((slices_Clone_int_int.f l0_1).bind fun t520 => ((impl_asks.f k a0_0 l0_1).bind fun t523 => (if t523 = 0 then (some (bt507.1, t520, bt507.2.2.1, t523, bt507.2.2.2.2.1, bt507.2.2.2.2.2.1, bt507.2.2.2.2.2.2.1, bt507.2.2.2.2.2.2.2)) else (some (a0_0, t520, bt507.2.2.1, t523, bt507.2.2.2.2.1, bt507.2.2.2.2.2.1, bt507.2.2.2.2.2.2.1, bt507.2.2.2.2.2.2.2)))))
theorem impl_submitted.mono : ∀ a0 a1 k, LeO (impl_submitted.f k a0 a1) (impl_submitted.f (k + 1) a0 a1) := by
 intro a0 a1 k
 unfold impl_submitted.f
 repeat' first
  | (with_reducible first | exact impl_asks.mono .. | exact LeO.refl _ | exact LeO.none _ | refine LeO.ite ?_ ?_ | refine LeO.bind ?_ (fun _ => ?_))
  | exact LeO.none _ | refine LeO.ite ?_ ?_ | refine LeO.bind ?_ (fun _ => ?_)
set_option maxHeartbeats 2000000 in
set_option maxRecDepth 100000 in
theorem impl_submitted.calls (k : Nat) (a0_0 : Int) (A0_1 : Option Addr) (c0_1 : Nat) (l0_1 : List Int) (r1 : Int) (r2 : List Int) (r3 : List Int) (r4 : Int) (r5 : Int) (r6 : Int) (r7 : Int) (r8 : Int) (w : World) (hr0_1 : Kd.C (Kd.int .i64) w A0_1 l0_1.length l0_1) (hc0_1 : l0_1.length ≤ c0_1) (h : impl_submitted.f k a0_0 l0_1 = some (r1, r2, r3, r4, r5, r6, r7, r8)) :
  Calls Tryd.prog 49 #[.agg #[.int .i64 a0_0, .slice A0_1 l0_1.length c0_1]] w fun e w' => ∃ v1_ v2_ : Value, e = .returned (.agg #[.int .i64 r1, v1_, v2_, .int .u32 r4, .int .i64 r5, .int .i64 r6, .int .i64 r7, .int .u32 r8]) ∧ Kd.R (Kd.int .i64) 3 w' w.heap.size (fun k_ => some k_ ≠ (v2_ : Value).ownBlock) v1_ r2 ∧ Kd.R (Kd.int .i64) 3 w' w.heap.size (fun k_ => some k_ ≠ (v1_ : Value).ownBlock) v2_ r3 ∧ Below w.heap.size w w' := by
 have hu39 := Tryd.underlying39
 have hu28 := Tryd.underlying28
 have HR0_1 := Aside0.mk hr0_1
 have HC0_1 := Aside0.mk hc0_1
 clear hr0_1 hc0_1
 have HB := Aside0.mk (Below.refl w.heap.size w)
 unfold impl_submitted.f at h
 have H := h
 clear h
 replace H := bn H
 obtain ⟨⟨t507, t508, t511, t514, t515, t516, t517, t518⟩, A2, H⟩ := H
 try dsimp only at H
 replace H := bn H
 obtain ⟨t520, A3, H⟩ := H
 try dsimp only at H
 replace H := bn H
 obtain ⟨t523, A4, H⟩ := H
 try dsimp only at H
 have HU5 := Aside0.mk H
 clear H
 go_enter Tryd.func49, Tryd.ntmps49
 go_upto_if 14 with (first | ((with_reducible refine gd 1 ?_); refine bx 1 39 #[.int .i64 a0_0, .slice A0_1 l0_1.length c0_1] ?_; clear HB; intro gb505 w6 hg BK505 hb GE505 HB; clear hb hg) | ((with_reducible refine gd 2 ?_); refine bx 2 28 #[.int .i64 0, .slice none 0 0, .slice none 0 0, .int .u32 0, .int .i64 0, .int .i64 0, .int .i64 0, .int .u32 0] ?_; clear HB; intro gb506 w7 hg BK506 hb GE506 HB; have NB505_506 := nl BK505 hg; have NB506_505 := ng BK505 hg; replace BK505 := b_ BK505 hb; clear hb hg) | ((with_reducible refine gf 87 ?_); refine gc Tryd.func87 (some 4) (impl_warpNew.calls _ _ _ _ _ _ _ _ _ A2.out) ?_; rintro e w8 ⟨v509, v512, rfl, ho0, ho1, hb⟩; refine ⟨_, rfl, ?_⟩; have HO510 := Aside0.mk (Kd.R_lower ho0 (below_size bw)); have HO513 := Aside0.mk (Kd.R_lower ho1 (below_size bw)); replace BK505 := b_ BK505 hb; replace BK506 := b_ BK506 hb; replace HB := hs hb; try clear hb; (try clear ho0); (try clear ho1)) | ((with_reducible refine gd 3 ?_); refine bx 3 28 #[.int .i64 0, .slice none 0 0, .slice none 0 0, .int .u32 0, .int .i64 0, .int .i64 0, .int .i64 0, .int .u32 0] ?_; clear HB; intro gb519 w9 hg BK519 hb GE519 HB; replace HO510 := Aside0.mk (Kd.R_below (ro HO510) hb); replace HO513 := Aside0.mk (Kd.R_below (ro HO513) hb); have NB505_519 := nl BK505 hg; have NB519_505 := ng BK505 hg; replace BK505 := b_ BK505 hb; have NB506_519 := nl BK506 hg; have NB519_506 := ng BK506 hg; replace BK506 := b_ BK506 hb; clear hb hg; have hnb10 := NB519_505.out; have hnc10 := NB505_519.out; have hnb11 := NB519_506.out; have hnc11 := NB506_519.out; obtain ⟨z12_0, z12_1, z12_2, z12_3, z12_4, z12_5, z12_6, z12_7⟩ := ca8 BK519; obtain ⟨f12_0, f12_1, f12_2, f12_3, f12_4, f12_5, f12_6, f12_7⟩ := fa8 BK519; obtain ⟨Ao13, co13, eo13⟩ := Kd.R_slice HO510.out; subst eo13; obtain ⟨Ao14, co14, eo14⟩ := Kd.R_slice HO513.out; subst eo14; have hnb15 := NB505_506.out; have hnc15 := NB506_505.out; obtain ⟨z16_0, z16_1⟩ := ca2 BK505; obtain ⟨f16_0, f16_1⟩ := fa2 BK505) | ((with_reducible refine gf 88 ?_); refine gc Tryd.func88 (some 7) (slices_Clone_int_int.calls A0_1 c0_1 _ _ _ (Kd.C_below HR0_1.out bw) HC0_1.out A3.out) ?_; rintro e w17 ⟨v521, rfl, ho0, hb⟩; refine ⟨_, rfl, ?_⟩; have HO522 := Aside0.mk (Kd.R_lower (Kd.R_new' (Kd.R_new' ho0 (Kd.R_lt (rx HO510 BK519))) (Kd.R_lt (rx HO513 BK519))) (below_size bw)); replace HO510 := Aside0.mk (Kd.R_elder' (rx HO510 BK519) (Kd.R_base ho0) hb); replace HO513 := Aside0.mk (Kd.R_elder' (rx HO513 BK519) (Kd.R_base ho0) hb); replace BK505 := b_ BK505 hb; replace BK506 := b_ BK506 hb; replace BK519 := bq BK519 #[.int .i64 t507, .slice Ao13 t508.length co13, .slice Ao14 t511.length co14, .int .u32 t514, .int .i64 t515, .int .i64 t516, .int .i64 t517, .int .u32 t518] hb; replace HB := hs hb; try clear hb; (try clear ho0); obtain ⟨Ao18, co18, eo18⟩ := Kd.R_slice HO522.out; subst eo18; obtain ⟨z19_0, z19_1, z19_2, z19_3, z19_4, z19_5, z19_6, z19_7⟩ := ca8 BK519; obtain ⟨f19_0, f19_1, f19_2, f19_3, f19_4, f19_5, f19_6, f19_7⟩ := fa8 BK519; obtain ⟨z20_0, z20_1⟩ := ca2 BK505; obtain ⟨f20_0, f20_1⟩ := fa2 BK505) | ((with_reducible refine gf 74 ?_); refine gc Tryd.func74 (some 10) (impl_asks.calls _ _ A0_1 c0_1 _ _ _ (Kd.C_below HR0_1.out bw) HC0_1.out A4.out) ?_; rintro e w21 ⟨rfl, hb⟩; refine ⟨_, rfl, ?_⟩; replace HO510 := Aside0.mk (Kd.R_below (rx HO510 BK519) hb); replace HO513 := Aside0.mk (Kd.R_below (rx HO513 BK519) hb); replace HO522 := Aside0.mk (Kd.R_below (rx HO522 BK519) hb); replace BK505 := b_ BK505 hb; replace BK506 := b_ BK506 hb; replace BK519 := bq BK519 #[.int .i64 t507, .slice Ao18 t520.length co18, .slice Ao14 t511.length co14, .int .u32 t514, .int .i64 t515, .int .i64 t516, .int .i64 t517, .int .u32 t518] hb; replace HB := hs hb; try clear hb; obtain ⟨z22_0, z22_1, z22_2, z22_3, z22_4, z22_5, z22_6, z22_7⟩ := ca8 BK519; obtain ⟨f22_0, f22_1, f22_2, f22_3, f22_4, f22_5, f22_6, f22_7⟩ := fa8 BK519))
 (try refine ap ?_)
 have H := HU5.out
 clear HU5
 replace H := ieq H
 rcases H with ⟨c23b0, c23b1, H⟩ | ⟨c23, c23b0, c23b1, H⟩
 ·(first | rw [c23b0] | (simp only [i64_w, i32_w]; rw [c23b0]) | (simp only [c23b2, Bool.not_true, Bool.not_false]) | (simp only [c23b1, Bool.not_true, Bool.not_false]) | skip)
  simp only [Option.some.injEq, Prod.mk.injEq] at H
  obtain ⟨rfl, rfl, rfl, rfl, rfl, rfl, rfl, rfl⟩ := H
  have hnb24 := NB519_505.out
  have hnc24 := NB505_519.out
  have hnb25 := NB519_506.out
  have hnc25 := NB506_519.out
  obtain ⟨z26_0, z26_1, z26_2, z26_3, z26_4, z26_5, z26_6, z26_7⟩ := ca8 BK519
  obtain ⟨f26_0, f26_1, f26_2, f26_3, f26_4, f26_5, f26_6, f26_7⟩ := fa8 BK519
  have hnb27 := NB506_505.out
  have hnc27 := NB505_506.out
  obtain ⟨z28_0, z28_1, z28_2, z28_3, z28_4, z28_5, z28_6, z28_7⟩ := ca8 BK506
  obtain ⟨f28_0, f28_1, f28_2, f28_3, f28_4, f28_5, f28_6, f28_7⟩ := fa8 BK506
  go_wp2
  refine bodyPost_ret (results_cell_row rfl _ _ gb506 28 #[.int .i64 t507, .slice Ao18 t520.length co18, .slice Ao14 t511.length co14, .int .u32 t523, .int .i64 t515, .int .i64 t516, .int .i64 t517, .int .u32 t518] (0, 0) _ rfl (bp BK506) Tryd.underlying28 rfl kr) rfl ?_
  exact ⟨_, _, rt, by (with_reducible repeat (first | apply Kd.R_alloc | apply Kd.R_drewN | apply Kd.R_drew)); exact Kd.R_mono (Kd.R_far (p := ⟨gb506, 7, none⟩) (Kd.R_far (p := ⟨gb506, 6, none⟩) (Kd.R_far (p := ⟨gb506, 5, none⟩) (Kd.R_far (p := ⟨gb506, 4, none⟩) (Kd.R_far (p := ⟨gb506, 3, none⟩) (Kd.R_far (p := ⟨gb506, 2, none⟩) (Kd.R_far (p := ⟨gb506, 1, none⟩) (Kd.R_far (p := ⟨gb506, 0, none⟩) (Kd.R_far (p := ⟨gb519, 3, none⟩) (Kd.R_types (Kd.R_types HO522.out BK519.out (by decide)) BK506.out (by decide)) (fun _ hk => hk.1.2) (.int .u32 t523)) (fun _ hk => hk.2) (.int .i64 t507)) (fun _ hk => hk.2) (.slice Ao18 t520.length co18)) (fun _ hk => hk.2) (.slice Ao14 t511.length co14)) (fun _ hk => hk.2) (.int .u32 t523)) (fun _ hk => hk.2) (.int .i64 t515)) (fun _ hk => hk.2) (.int .i64 t516)) (fun _ hk => hk.2) (.int .i64 t517)) (fun _ hk => hk.2) (.int .u32 t518)) (fun _ hk => hk.1.1.2), by (with_reducible repeat (first | apply Kd.R_alloc | apply Kd.R_drewN | apply Kd.R_drew)); exact Kd.R_mono (Kd.R_far (p := ⟨gb506, 7, none⟩) (Kd.R_far (p := ⟨gb506, 6, none⟩) (Kd.R_far (p := ⟨gb506, 5, none⟩) (Kd.R_far (p := ⟨gb506, 4, none⟩) (Kd.R_far (p := ⟨gb506, 3, none⟩) (Kd.R_far (p := ⟨gb506, 2, none⟩) (Kd.R_far (p := ⟨gb506, 1, none⟩) (Kd.R_far (p := ⟨gb506, 0, none⟩) (Kd.R_far (p := ⟨gb519, 3, none⟩) (Kd.R_types (Kd.R_types HO513.out BK519.out (by decide)) BK506.out (by decide)) (fun _ hk => hk.1.2) (.int .u32 t523)) (fun _ hk => hk.2) (.int .i64 t507)) (fun _ hk => hk.2) (.slice Ao18 t520.length co18)) (fun _ hk => hk.2) (.slice Ao14 t511.length co14)) (fun _ hk => hk.2) (.int .u32 t523)) (fun _ hk => hk.2) (.int .i64 t515)) (fun _ hk => hk.2) (.int .i64 t516)) (fun _ hk => hk.2) (.int .i64 t517)) (fun _ hk => hk.2) (.int .u32 t518)) (fun _ hk => hk.1.1.2), bw⟩
 ·(first | rw [c23b0] | (simp only [i64_w, i32_w]; rw [c23b0]) | (simp only [c23b2, Bool.not_true, Bool.not_false]) | (simp only [c23b1, Bool.not_true, Bool.not_false]) | skip)
  simp only [Option.some.injEq, Prod.mk.injEq] at H
  obtain ⟨rfl, rfl, rfl, rfl, rfl, rfl, rfl, rfl⟩ := H
  have hnb29 := NB505_506.out
  have hnc29 := NB506_505.out
  have hnb30 := NB505_519.out
  have hnc30 := NB519_505.out
  obtain ⟨z31_0, z31_1⟩ := ca2 BK505
  obtain ⟨f31_0, f31_1⟩ := fa2 BK505
  have hnb32 := NB519_506.out
  have hnc32 := NB506_519.out
  obtain ⟨z33_0, z33_1, z33_2, z33_3, z33_4, z33_5, z33_6, z33_7⟩ := ca8 BK519
  obtain ⟨f33_0, f33_1, f33_2, f33_3, f33_4, f33_5, f33_6, f33_7⟩ := fa8 BK519
  obtain ⟨z34_0, z34_1, z34_2, z34_3, z34_4, z34_5, z34_6, z34_7⟩ := ca8 BK506
  obtain ⟨f34_0, f34_1, f34_2, f34_3, f34_4, f34_5, f34_6, f34_7⟩ := fa8 BK506
  go_wp2
  refine bodyPost_ret (results_cell_row rfl _ _ gb506 28 #[.int .i64 a0_0, .slice Ao18 t520.length co18, .slice Ao14 t511.length co14, .int .u32 t523, .int .i64 t515, .int .i64 t516, .int .i64 t517, .int .u32 t518] (0, 0) _ rfl (bp BK506) Tryd.underlying28 rfl kr) rfl ?_
  exact ⟨_, _, rt, by (with_reducible repeat (first | apply Kd.R_alloc | apply Kd.R_drewN | apply Kd.R_drew)); exact Kd.R_mono (Kd.R_far (p := ⟨gb506, 7, none⟩) (Kd.R_far (p := ⟨gb506, 6, none⟩) (Kd.R_far (p := ⟨gb506, 5, none⟩) (Kd.R_far (p := ⟨gb506, 4, none⟩) (Kd.R_far (p := ⟨gb506, 3, none⟩) (Kd.R_far (p := ⟨gb506, 2, none⟩) (Kd.R_far (p := ⟨gb506, 1, none⟩) (Kd.R_far (p := ⟨gb506, 0, none⟩) (Kd.R_far (p := ⟨gb519, 0, none⟩) (Kd.R_far (p := ⟨gb519, 3, none⟩) (Kd.R_types (Kd.R_types HO522.out BK519.out (by decide)) BK506.out (by decide)) (fun _ hk => hk.1.2) (.int .u32 t523)) (fun _ hk => hk.1.2) (.int .i64 a0_0)) (fun _ hk => hk.2) (.int .i64 a0_0)) (fun _ hk => hk.2) (.slice Ao18 t520.length co18)) (fun _ hk => hk.2) (.slice Ao14 t511.length co14)) (fun _ hk => hk.2) (.int .u32 t523)) (fun _ hk => hk.2) (.int .i64 t515)) (fun _ hk => hk.2) (.int .i64 t516)) (fun _ hk => hk.2) (.int .i64 t517)) (fun _ hk => hk.2) (.int .u32 t518)) (fun _ hk => hk.1.1.2), by (with_reducible repeat (first | apply Kd.R_alloc | apply Kd.R_drewN | apply Kd.R_drew)); exact Kd.R_mono (Kd.R_far (p := ⟨gb506, 7, none⟩) (Kd.R_far (p := ⟨gb506, 6, none⟩) (Kd.R_far (p := ⟨gb506, 5, none⟩) (Kd.R_far (p := ⟨gb506, 4, none⟩) (Kd.R_far (p := ⟨gb506, 3, none⟩) (Kd.R_far (p := ⟨gb506, 2, none⟩) (Kd.R_far (p := ⟨gb506, 1, none⟩) (Kd.R_far (p := ⟨gb506, 0, none⟩) (Kd.R_far (p := ⟨gb519, 0, none⟩) (Kd.R_far (p := ⟨gb519, 3, none⟩) (Kd.R_types (Kd.R_types HO513.out BK519.out (by decide)) BK506.out (by decide)) (fun _ hk => hk.1.2) (.int .u32 t523)) (fun _ hk => hk.1.2) (.int .i64 a0_0)) (fun _ hk => hk.2) (.int .i64 a0_0)) (fun _ hk => hk.2) (.slice Ao18 t520.length co18)) (fun _ hk => hk.2) (.slice Ao14 t511.length co14)) (fun _ hk => hk.2) (.int .u32 t523)) (fun _ hk => hk.2) (.int .i64 t515)) (fun _ hk => hk.2) (.int .i64 t516)) (fun _ hk => hk.2) (.int .i64 t517)) (fun _ hk => hk.2) (.int .u32 t518)) (fun _ hk => hk.1.1.2), bw⟩

/-! ### impl_WarpSubmit: function 18 -/
def impl_WarpSubmit.f (k : Nat) (a0_0 : Int) (l0_1 : List Int) (l0_2 : List Int) (a0_3 : Int) (a0_4 : Int) (a0_5 : Int) (a0_6 : Int) (a0_7 : Int) (a1_0 : Int) (l1_1 : List Int) : Option (Int × List Int × List Int × Int × Int × Int × Int × Int × Bool) := (impl_isWarp.f k a0_0 l0_1 l0_2 a0_3 a0_4 a0_5 a0_6 a0_7 16).bind fun t527 => (if t527 = true then (if a0_0 = 0 then ((impl_isReq.f a1_0 l1_1).bind fun t528 => (if t528 = true then ((impl_submitted.f k a1_0 l1_1).bind fun bt529 => (some (bt529.1, bt529.2.1, bt529.2.2.1, bt529.2.2.2.1, bt529.2.2.2.2.1, bt529.2.2.2.2.2.1, bt529.2.2.2.2.2.2.1, bt529.2.2.2.2.2.2.2, true))) else (some (0, ([] : List Int), ([] : List Int), 0, 0, 0, 0, 0, false)))) else (some (0, ([] : List Int), ([] : List Int), 0, 0, 0, 0, 0, false))) else (some (0, ([] : List Int), ([] : List Int), 0, 0, 0, 0, 0, false)))
theorem impl_WarpSubmit.mono : ∀ a0 a1 a2 a3 a4 a5 a6 a7 a8 a9 k, LeO (impl_WarpSubmit.f k a0 a1 a2 a3 a4 a5 a6 a7 a8 a9) (impl_WarpSubmit.f (k + 1) a0 a1 a2 a3 a4 a5 a6 a7 a8 a9) := by
 intro a0 a1 a2 a3 a4 a5 a6 a7 a8 a9 k
 unfold impl_WarpSubmit.f
 repeat' first
  | (with_reducible first | exact impl_isWarp.mono .. | exact impl_submitted.mono .. | exact LeO.refl _ | exact LeO.none _ | refine LeO.ite ?_ ?_ | refine LeO.bind ?_ (fun _ => ?_))
  | exact LeO.none _ | refine LeO.ite ?_ ?_ | refine LeO.bind ?_ (fun _ => ?_)
set_option maxHeartbeats 2000000 in
set_option maxRecDepth 100000 in
theorem impl_WarpSubmit.calls (k : Nat) (a0_0 : Int) (A0_1 : Option Addr) (c0_1 : Nat) (l0_1 : List Int) (A0_2 : Option Addr) (c0_2 : Nat) (l0_2 : List Int) (a0_3 : Int) (a0_4 : Int) (a0_5 : Int) (a0_6 : Int) (a0_7 : Int) (a1_0 : Int) (A1_1 : Option Addr) (c1_1 : Nat) (l1_1 : List Int) (r1 : Int) (r2 : List Int) (r3 : List Int) (r4 : Int) (r5 : Int) (r6 : Int) (r7 : Int) (r8 : Int) (r9 : Bool) (w : World) (hr0_1 : Kd.C (Kd.int .i64) w A0_1 l0_1.length l0_1) (hc0_1 : l0_1.length ≤ c0_1) (hr0_2 : Kd.C (Kd.int .i64) w A0_2 l0_2.length l0_2) (hc0_2 : l0_2.length ≤ c0_2) (hr1_1 : Kd.C (Kd.int .i64) w A1_1 l1_1.length l1_1) (hc1_1 : l1_1.length ≤ c1_1) (h : impl_WarpSubmit.f k a0_0 l0_1 l0_2 a0_3 a0_4 a0_5 a0_6 a0_7 a1_0 l1_1 = some (r1, r2, r3, r4, r5, r6, r7, r8, r9)) (hT : GT w) :
  Calls Tryd.prog 18 #[.agg #[.int .i64 a0_0, .slice A0_1 l0_1.length c0_1, .slice A0_2 l0_2.length c0_2, .int .u32 a0_3, .int .i64 a0_4, .int .i64 a0_5, .int .i64 a0_6, .int .u32 a0_7], .agg #[.int .i64 a1_0, .slice A1_1 l1_1.length c1_1]] w fun e w' => ∃ v1_ v2_ : Value, e = .returned (.tuple #[.agg #[.int .i64 r1, v1_, v2_, .int .u32 r4, .int .i64 r5, .int .i64 r6, .int .i64 r7, .int .u32 r8], .bool r9]) ∧ Kd.R (Kd.int .i64) 3 w' w.heap.size (fun k_ => some k_ ≠ (v2_ : Value).ownBlock) v1_ r2 ∧ Kd.R (Kd.int .i64) 3 w' w.heap.size (fun k_ => some k_ ≠ (v1_ : Value).ownBlock) v2_ r3 ∧ Below w.heap.size w w' := by
 have hu28 := Tryd.underlying28
 have hu39 := Tryd.underlying39
 have HR0_1 := Aside0.mk hr0_1
 have HC0_1 := Aside0.mk hc0_1
 clear hr0_1 hc0_1
 have HR0_2 := Aside0.mk hr0_2
 have HC0_2 := Aside0.mk hc0_2
 clear hr0_2 hc0_2
 have HR1_1 := Aside0.mk hr1_1
 have HC1_1 := Aside0.mk hc1_1
 clear hr1_1 hc1_1
 have HB := Aside0.mk (Below.refl w.heap.size w)
 unfold impl_WarpSubmit.f at h
 have H := h
 clear h
 replace H := bn H
 obtain ⟨t527, A3, H⟩ := H
 try dsimp only at H
 replace H := ib H
 rcases H with ⟨rfl, H⟩ | ⟨rfl, H⟩
 ·replace H := ieq H
  rcases H with ⟨c5b0, c5b1, H⟩ | ⟨c5, c5b0, c5b1, H⟩
  ·replace H := bn H
   obtain ⟨t528, A6, H⟩ := H
   try dsimp only at H
   have HU7 := Aside0.mk H
   clear H
   go_enter Tryd.func18, Tryd.ntmps18
   go_upto_if 18 with (first | ((with_reducible refine gd 2 ?_); refine bx 2 28 #[.int .i64 a0_0, .slice A0_1 l0_1.length c0_1, .slice A0_2 l0_2.length c0_2, .int .u32 a0_3, .int .i64 a0_4, .int .i64 a0_5, .int .i64 a0_6, .int .u32 a0_7] ?_; clear HB; intro gb524 w8 hg BK524 hb GE524 HB; clear hb hg) | ((with_reducible refine gd 3 ?_); refine bx 3 39 #[.int .i64 a1_0, .slice A1_1 l1_1.length c1_1] ?_; clear HB; intro gb525 w9 hg BK525 hb GE525 HB; have NB524_525 := nl BK524 hg; have NB525_524 := ng BK524 hg; replace BK524 := b_ BK524 hb; clear hb hg) | ((with_reducible refine gd 4 ?_); refine bx 4 28 #[.int .i64 0, .slice none 0 0, .slice none 0 0, .int .u32 0, .int .i64 0, .int .i64 0, .int .i64 0, .int .u32 0] ?_; clear HB; intro gb526 w10 hg BK526 hb GE526 HB; have NB524_526 := nl BK524 hg; have NB526_524 := ng BK524 hg; replace BK524 := b_ BK524 hb; have NB525_526 := nl BK525 hg; have NB526_525 := ng BK525 hg; replace BK525 := b_ BK525 hb; clear hb hg; have hnb11 := NB524_525.out; have hnc11 := NB525_524.out; have hnb12 := NB524_526.out; have hnc12 := NB526_524.out; obtain ⟨z13_0, z13_1, z13_2, z13_3, z13_4, z13_5, z13_6, z13_7⟩ := ca8 BK524; obtain ⟨f13_0, f13_1, f13_2, f13_3, f13_4, f13_5, f13_6, f13_7⟩ := fa8 BK524) | ((with_reducible refine gf 42 ?_); refine gc Tryd.func42 (some 7) (impl_isWarp.calls _ _ A0_1 c0_1 _ A0_2 c0_2 _ _ _ _ _ _ _ _ _ (cb HR0_1) HC0_1.out (cb HR0_2) HC0_2.out A3.out (hT.below bw)) ?_; rintro e w14 ⟨rfl, hb⟩; refine ⟨_, rfl, ?_⟩; replace BK524 := b_ BK524 hb; replace BK525 := b_ BK525 hb; replace BK526 := b_ BK526 hb; replace HB := hs hb; try clear hb; obtain ⟨z15_0, z15_1, z15_2, z15_3, z15_4, z15_5, z15_6, z15_7⟩ := ca8 BK524; obtain ⟨f15_0, f15_1, f15_2, f15_3, f15_4, f15_5, f15_6, f15_7⟩ := fa8 BK524; have hnb16 := NB525_526.out; have hnc16 := NB526_525.out; obtain ⟨z17_0, z17_1⟩ := ca2 BK525; obtain ⟨f17_0, f17_1⟩ := fa2 BK525) | (go_at_call 48; (with_reducible refine (impl_isReq.calls _ _ _ _ _ _ ?side1 ?side2 A6.out).mono ?_); (case side1 => repeat (first | exact (Kd.C_below HR1_1.out HB.out) | (with_reducible refine Kd.C_alloc ?_ _) | (with_reducible refine Kd.C_drewN ?_ _) | (with_reducible refine Kd.C_drew ?_))); (case side2 => exact HC1_1.out); rintro e w18 ⟨rfl, hb⟩; replace BK524 := b_ BK524 hb; replace BK525 := b_ BK525 hb; replace BK526 := b_ BK526 hb; replace HB := hs hb; try clear hb))
   (try refine ap ?_)
   have H := HU7.out
   clear HU7
   replace H := ib H
   rcases H with ⟨rfl, H⟩ | ⟨rfl, H⟩
   ·(try simp only [Bool.not_true, Bool.not_false])
    replace H := bn H
    obtain ⟨⟨t529, t530, t533, t536, t537, t538, t539, t540⟩, A20, H⟩ := H
    try dsimp only at H
    simp only [Option.some.injEq, Prod.mk.injEq] at H
    obtain ⟨rfl, rfl, rfl, rfl, rfl, rfl, rfl, rfl, rfl⟩ := H
    have hnb21 := NB525_524.out
    have hnc21 := NB524_525.out
    have hnb22 := NB525_526.out
    have hnc22 := NB526_525.out
    obtain ⟨z23_0, z23_1⟩ := ca2 BK525
    obtain ⟨f23_0, f23_1⟩ := fa2 BK525
    go_wp2_with (first | ((with_reducible refine gf 49 ?_); refine gc Tryd.func49 (some 21) (impl_submitted.calls _ _ A1_1 c1_1 _ _ _ _ _ _ _ _ _ _ (cb HR1_1) HC1_1.out A20.out) ?_; rintro e w24 ⟨v531, v534, rfl, ho0, ho1, hb⟩; refine ⟨_, rfl, ?_⟩; have HO532 := Aside0.mk (Kd.R_lower ho0 (below_size bw)); have HO535 := Aside0.mk (Kd.R_lower ho1 (below_size bw)); replace BK524 := b_ BK524 hb; replace BK525 := b_ BK525 hb; replace BK526 := b_ BK526 hb; replace HB := hs hb; try clear hb; (try clear ho0); (try clear ho1); have hnb25 := NB526_524.out; have hnc25 := NB524_526.out; obtain ⟨z26_0, z26_1, z26_2, z26_3, z26_4, z26_5, z26_6, z26_7⟩ := ca8 BK526; obtain ⟨f26_0, f26_1, f26_2, f26_3, f26_4, f26_5, f26_6, f26_7⟩ := fa8 BK526; obtain ⟨Ao27, co27, eo27⟩ := Kd.R_slice HO532.out; subst eo27; obtain ⟨Ao28, co28, eo28⟩ := Kd.R_slice HO535.out; subst eo28))
    refine bodyPost_ret (results_ct rfl _ _ gb526 28 #[.int .i64 t529, .slice Ao27 t530.length co27, .slice Ao28 t533.length co28, .int .u32 t536, .int .i64 t537, .int .i64 t538, .int .i64 t539, .int .u32 t540] (0, 0) _ rfl (bp BK526) Tryd.underlying28 rfl kr) rfl ?_
    exact ⟨_, _, rt, by (with_reducible repeat (first | apply Kd.R_alloc | apply Kd.R_drewN | apply Kd.R_drew)); exact Kd.R_mono (Kd.R_far (p := ⟨gb526, 7, none⟩) (Kd.R_far (p := ⟨gb526, 6, none⟩) (Kd.R_far (p := ⟨gb526, 5, none⟩) (Kd.R_far (p := ⟨gb526, 4, none⟩) (Kd.R_far (p := ⟨gb526, 3, none⟩) (Kd.R_far (p := ⟨gb526, 2, none⟩) (Kd.R_far (p := ⟨gb526, 1, none⟩) (Kd.R_far (p := ⟨gb526, 0, none⟩) (Kd.R_types HO532.out BK526.out (by decide)) (fun _ hk => hk.2) (.int .i64 t529)) (fun _ hk => hk.2) (.slice Ao27 t530.length co27)) (fun _ hk => hk.2) (.slice Ao28 t533.length co28)) (fun _ hk => hk.2) (.int .u32 t536)) (fun _ hk => hk.2) (.int .i64 t537)) (fun _ hk => hk.2) (.int .i64 t538)) (fun _ hk => hk.2) (.int .i64 t539)) (fun _ hk => hk.2) (.int .u32 t540)) (fun _ hk => hk.1), by (with_reducible repeat (first | apply Kd.R_alloc | apply Kd.R_drewN | apply Kd.R_drew)); exact Kd.R_mono (Kd.R_far (p := ⟨gb526, 7, none⟩) (Kd.R_far (p := ⟨gb526, 6, none⟩) (Kd.R_far (p := ⟨gb526, 5, none⟩) (Kd.R_far (p := ⟨gb526, 4, none⟩) (Kd.R_far (p := ⟨gb526, 3, none⟩) (Kd.R_far (p := ⟨gb526, 2, none⟩) (Kd.R_far (p := ⟨gb526, 1, none⟩) (Kd.R_far (p := ⟨gb526, 0, none⟩) (Kd.R_types HO535.out BK526.out (by decide)) (fun _ hk => hk.2) (.int .i64 t529)) (fun _ hk => hk.2) (.slice Ao27 t530.length co27)) (fun _ hk => hk.2) (.slice Ao28 t533.length co28)) (fun _ hk => hk.2) (.int .u32 t536)) (fun _ hk => hk.2) (.int .i64 t537)) (fun _ hk => hk.2) (.int .i64 t538)) (fun _ hk => hk.2) (.int .i64 t539)) (fun _ hk => hk.2) (.int .u32 t540)) (fun _ hk => hk.1), bw⟩
   ·(try simp only [Bool.not_true, Bool.not_false])
    simp only [Option.some.injEq, Prod.mk.injEq] at H
    obtain ⟨rfl, rfl, rfl, rfl, rfl, rfl, rfl, rfl, rfl⟩ := H
    have hnb29 := NB526_524.out
    have hnc29 := NB524_526.out
    have hnb30 := NB526_525.out
    have hnc30 := NB525_526.out
    obtain ⟨z31_0, z31_1, z31_2, z31_3, z31_4, z31_5, z31_6, z31_7⟩ := ca8 BK526
    obtain ⟨f31_0, f31_1, f31_2, f31_3, f31_4, f31_5, f31_6, f31_7⟩ := fa8 BK526
    go_wp2
    refine bodyPost_ret (results_ct rfl _ _ gb526 28 #[.int .i64 0, .slice none 0 0, .slice none 0 0, .int .u32 0, .int .i64 0, .int .i64 0, .int .i64 0, .int .u32 0] (0, 0) _ rfl (bp BK526) Tryd.underlying28 rfl kr) rfl ?_
    exact ⟨_, _, rt, by first | exact Kd.R_nil _ _ _ _ _ | exact Kd.N_nil _ _ _ _ _ | exact Kd.V_nil _ _ _ _ _ | exact Kd.Q_nil _ _ _ _ _ | exact Kd.S_nil _ _ _ _ _, by first | exact Kd.R_nil _ _ _ _ _ | exact Kd.N_nil _ _ _ _ _ | exact Kd.V_nil _ _ _ _ _ | exact Kd.Q_nil _ _ _ _ _ | exact Kd.S_nil _ _ _ _ _, bw⟩
  ·simp only [Option.some.injEq, Prod.mk.injEq] at H
   obtain ⟨rfl, rfl, rfl, rfl, rfl, rfl, rfl, rfl, rfl⟩ := H
   go_enter Tryd.func18, Tryd.ntmps18
   go_wp2_with (first | ((with_reducible refine gd 2 ?_); refine bx 2 28 #[.int .i64 a0_0, .slice A0_1 l0_1.length c0_1, .slice A0_2 l0_2.length c0_2, .int .u32 a0_3, .int .i64 a0_4, .int .i64 a0_5, .int .i64 a0_6, .int .u32 a0_7] ?_; clear HB; intro gb524 w32 hg BK524 hb GE524 HB; clear hb hg) | ((with_reducible refine gd 3 ?_); refine bx 3 39 #[.int .i64 a1_0, .slice A1_1 l1_1.length c1_1] ?_; clear HB; intro gb525 w33 hg BK525 hb GE525 HB; have NB524_525 := nl BK524 hg; have NB525_524 := ng BK524 hg; replace BK524 := b_ BK524 hb; clear hb hg) | ((with_reducible refine gd 4 ?_); refine bx 4 28 #[.int .i64 0, .slice none 0 0, .slice none 0 0, .int .u32 0, .int .i64 0, .int .i64 0, .int .i64 0, .int .u32 0] ?_; clear HB; intro gb526 w34 hg BK526 hb GE526 HB; have NB524_526 := nl BK524 hg; have NB526_524 := ng BK524 hg; replace BK524 := b_ BK524 hb; have NB525_526 := nl BK525 hg; have NB526_525 := ng BK525 hg; replace BK525 := b_ BK525 hb; clear hb hg; have hnb35 := NB524_525.out; have hnc35 := NB525_524.out; have hnb36 := NB524_526.out; have hnc36 := NB526_524.out; obtain ⟨z37_0, z37_1, z37_2, z37_3, z37_4, z37_5, z37_6, z37_7⟩ := ca8 BK524; obtain ⟨f37_0, f37_1, f37_2, f37_3, f37_4, f37_5, f37_6, f37_7⟩ := fa8 BK524) | ((with_reducible refine gf 42 ?_); refine gc Tryd.func42 (some 7) (impl_isWarp.calls _ _ A0_1 c0_1 _ A0_2 c0_2 _ _ _ _ _ _ _ _ _ (cb HR0_1) HC0_1.out (cb HR0_2) HC0_2.out A3.out (hT.below bw)) ?_; rintro e w38 ⟨rfl, hb⟩; refine ⟨_, rfl, ?_⟩; replace BK524 := b_ BK524 hb; replace BK525 := b_ BK525 hb; replace BK526 := b_ BK526 hb; replace HB := hs hb; try clear hb; obtain ⟨z39_0, z39_1, z39_2, z39_3, z39_4, z39_5, z39_6, z39_7⟩ := ca8 BK524; obtain ⟨f39_0, f39_1, f39_2, f39_3, f39_4, f39_5, f39_6, f39_7⟩ := fa8 BK524; have hnb40 := NB526_525.out; have hnc40 := NB525_526.out; obtain ⟨z41_0, z41_1, z41_2, z41_3, z41_4, z41_5, z41_6, z41_7⟩ := ca8 BK526; obtain ⟨f41_0, f41_1, f41_2, f41_3, f41_4, f41_5, f41_6, f41_7⟩ := fa8 BK526))
   refine bodyPost_ret (results_ct rfl _ _ gb526 28 #[.int .i64 0, .slice none 0 0, .slice none 0 0, .int .u32 0, .int .i64 0, .int .i64 0, .int .i64 0, .int .u32 0] (0, 0) _ rfl (bp BK526) Tryd.underlying28 rfl kr) rfl ?_
   exact ⟨_, _, rt, by first | exact Kd.R_nil _ _ _ _ _ | exact Kd.N_nil _ _ _ _ _ | exact Kd.V_nil _ _ _ _ _ | exact Kd.Q_nil _ _ _ _ _ | exact Kd.S_nil _ _ _ _ _, by first | exact Kd.R_nil _ _ _ _ _ | exact Kd.N_nil _ _ _ _ _ | exact Kd.V_nil _ _ _ _ _ | exact Kd.Q_nil _ _ _ _ _ | exact Kd.S_nil _ _ _ _ _, bw⟩
 ·simp only [Option.some.injEq, Prod.mk.injEq] at H
  obtain ⟨rfl, rfl, rfl, rfl, rfl, rfl, rfl, rfl, rfl⟩ := H
  go_enter Tryd.func18, Tryd.ntmps18
  go_wp2_with (first | ((with_reducible refine gd 2 ?_); refine bx 2 28 #[.int .i64 a0_0, .slice A0_1 l0_1.length c0_1, .slice A0_2 l0_2.length c0_2, .int .u32 a0_3, .int .i64 a0_4, .int .i64 a0_5, .int .i64 a0_6, .int .u32 a0_7] ?_; clear HB; intro gb524 w42 hg BK524 hb GE524 HB; clear hb hg) | ((with_reducible refine gd 3 ?_); refine bx 3 39 #[.int .i64 a1_0, .slice A1_1 l1_1.length c1_1] ?_; clear HB; intro gb525 w43 hg BK525 hb GE525 HB; have NB524_525 := nl BK524 hg; have NB525_524 := ng BK524 hg; replace BK524 := b_ BK524 hb; clear hb hg) | ((with_reducible refine gd 4 ?_); refine bx 4 28 #[.int .i64 0, .slice none 0 0, .slice none 0 0, .int .u32 0, .int .i64 0, .int .i64 0, .int .i64 0, .int .u32 0] ?_; clear HB; intro gb526 w44 hg BK526 hb GE526 HB; have NB524_526 := nl BK524 hg; have NB526_524 := ng BK524 hg; replace BK524 := b_ BK524 hb; have NB525_526 := nl BK525 hg; have NB526_525 := ng BK525 hg; replace BK525 := b_ BK525 hb; clear hb hg; have hnb45 := NB524_525.out; have hnc45 := NB525_524.out; have hnb46 := NB524_526.out; have hnc46 := NB526_524.out; obtain ⟨z47_0, z47_1, z47_2, z47_3, z47_4, z47_5, z47_6, z47_7⟩ := ca8 BK524; obtain ⟨f47_0, f47_1, f47_2, f47_3, f47_4, f47_5, f47_6, f47_7⟩ := fa8 BK524) | ((with_reducible refine gf 42 ?_); refine gc Tryd.func42 (some 7) (impl_isWarp.calls _ _ A0_1 c0_1 _ A0_2 c0_2 _ _ _ _ _ _ _ _ _ (cb HR0_1) HC0_1.out (cb HR0_2) HC0_2.out A3.out (hT.below bw)) ?_; rintro e w48 ⟨rfl, hb⟩; refine ⟨_, rfl, ?_⟩; replace BK524 := b_ BK524 hb; replace BK525 := b_ BK525 hb; replace BK526 := b_ BK526 hb; replace HB := hs hb; try clear hb; have hnb49 := NB526_525.out; have hnc49 := NB525_526.out; obtain ⟨z50_0, z50_1, z50_2, z50_3, z50_4, z50_5, z50_6, z50_7⟩ := ca8 BK526; obtain ⟨f50_0, f50_1, f50_2, f50_3, f50_4, f50_5, f50_6, f50_7⟩ := fa8 BK526))
  refine bodyPost_ret (results_ct rfl _ _ gb526 28 #[.int .i64 0, .slice none 0 0, .slice none 0 0, .int .u32 0, .int .i64 0, .int .i64 0, .int .i64 0, .int .u32 0] (0, 0) _ rfl (bp BK526) Tryd.underlying28 rfl kr) rfl ?_
  exact ⟨_, _, rt, by first | exact Kd.R_nil _ _ _ _ _ | exact Kd.N_nil _ _ _ _ _ | exact Kd.V_nil _ _ _ _ _ | exact Kd.Q_nil _ _ _ _ _ | exact Kd.S_nil _ _ _ _ _, by first | exact Kd.R_nil _ _ _ _ _ | exact Kd.N_nil _ _ _ _ _ | exact Kd.V_nil _ _ _ _ _ | exact Kd.Q_nil _ _ _ _ _ | exact Kd.S_nil _ _ _ _ _, bw⟩

end Go.Proofs.YtfhcnnkeokjfpaaDoor.PS1
