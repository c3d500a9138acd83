/- What functions of the program compute, each as a Lean function, and that the run comes to just that. Conditions: none. (Laid by this session's own program.) -/
import Derived.Test.YtfhcnnkeokjfpaaDoorT
import Derived.Test.YtfhcnnkeokjfpaaDoorPB1x0
import Derived.Test.YtfhcnnkeokjfpaaDoorPB1x2
import Derived.Test.YtfhcnnkeokjfpaaDoorPB1x8
import Derived.Test.YtfhcnnkeokjfpaaDoorPB1x9
import Derived.Test.YtfhcnnkeokjfpaaDoorPB1x10
import Derived.Test.YtfhcnnkeokjfpaaDoorPB1x18
namespace Go.Proofs.YtfhcnnkeokjfpaaDoor.PB1
open Go.RowKit Go.Proofs.YtfhcnnkeokjfpaaDoorW.PrintWords Go.Proofs.YtfhcnnkeokjfpaaDoorW.PrintLast Go.Proofs.YtfhcnnkeokjfpaaDoorW.PrintMore Go.Proofs.YtfhcnnkeokjfpaaDoor.T
attribute [local go_sem] max2_int min2_int max_two min_two max_three min_three max_four min_four   -- for this text's walks alone
set_option linter.unusedVariables false
set_option linter.unusedSimpArgs false

/-! ### impl_WarpOk: function 11 -/
def impl_WarpOk.f (k : Nat) (a0_0 : Int) (l0_1 : List Int) (l0_2 : List Int) (a0_3 : Int) (a0_4 : Int) (a0_5 : Int) (a0_6 : Int) (a0_7 : Int) (a1 : Int) : Option (Bool) := (impl_isWarp.f k a0_0 l0_1 l0_2 a0_3 a0_4 a0_5 a0_6 a0_7 a1).bind fun t317 => (some t317)
theorem impl_WarpOk.mono : ∀ a0 a1 a2 a3 a4 a5 a6 a7 a8 k, LeO (impl_WarpOk.f k a0 a1 a2 a3 a4 a5 a6 a7 a8) (impl_WarpOk.f (k + 1) a0 a1 a2 a3 a4 a5 a6 a7 a8) := by
  intro a0 a1 a2 a3 a4 a5 a6 a7 a8 k
  unfold impl_WarpOk.f
  repeat' first
    | (with_reducible first | exact impl_isWarp.mono .. | exact LeO.refl _ | exact LeO.none _ | refine LeO.ite ?_ ?_ | refine LeO.bind ?_ (fun _ => ?_))
    | exact LeO.none _ | refine LeO.ite ?_ ?_ | refine LeO.bind ?_ (fun _ => ?_)
set_option maxHeartbeats 2000000 in
set_option maxRecDepth 100000 in
theorem impl_WarpOk.calls (k : Nat) (a0_0 : Int) (A0_1 : Option Addr) (c0_1 : Nat) (l0_1 : List Int) (A0_2 : Option Addr) (c0_2 : Nat) (l0_2 : List Int) (a0_3 : Int) (a0_4 : Int) (a0_5 : Int) (a0_6 : Int) (a0_7 : Int) (a1 : Int) (r : Bool) (w : World) (hr0_1 : Kd.C (Kd.int .i64) w A0_1 l0_1.length l0_1) (hc0_1 : l0_1.length ≤ c0_1) (hr0_2 : Kd.C (Kd.int .i64) w A0_2 l0_2.length l0_2) (hc0_2 : l0_2.length ≤ c0_2) (h : impl_WarpOk.f k a0_0 l0_1 l0_2 a0_3 a0_4 a0_5 a0_6 a0_7 a1 = some r) (hT : GT w) :
    Calls Tryd.prog 11 #[.agg #[.int .i64 a0_0, .slice A0_1 l0_1.length c0_1, .slice A0_2 l0_2.length c0_2, .int .u32 a0_3, .int .i64 a0_4, .int .i64 a0_5, .int .i64 a0_6, .int .u32 a0_7], .int .i64 a1] w fun e w' => e = .returned (.bool r) ∧ Below w.heap.size w w' := by
  have hu28 := Tryd.underlying28
  have HR0_1 := Aside0.mk hr0_1
  have HC0_1 := Aside0.mk hc0_1
  clear hr0_1 hc0_1
  have HR0_2 := Aside0.mk hr0_2
  have HC0_2 := Aside0.mk hc0_2
  clear hr0_2 hc0_2
  have HB := Aside0.mk (Below.refl w.heap.size w)
  unfold impl_WarpOk.f at h
  have H := h
  clear h
  replace H := bn H
  obtain ⟨t317, A3, H⟩ := H
  try dsimp only at H
  obtain rfl := Option.some.inj H
  go_enter Tryd.func11, Tryd.ntmps11
  go_wp2_with (first | ((with_reducible refine gd 2 ?_); refine bx 2 28 #[.int .i64 a0_0, .slice A0_1 l0_1.length c0_1, .slice A0_2 l0_2.length c0_2, .int .u32 a0_3, .int .i64 a0_4, .int .i64 a0_5, .int .i64 a0_6, .int .u32 a0_7] ?_; clear HB; intro gb316 w4 hg BK316 hb GE316 HB; clear hb hg; obtain ⟨z5_0, z5_1, z5_2, z5_3, z5_4, z5_5, z5_6, z5_7⟩ := ca8 BK316; obtain ⟨f5_0, f5_1, f5_2, f5_3, f5_4, f5_5, f5_6, f5_7⟩ := fa8 BK316) | ((with_reducible refine gf 42 ?_); refine gc Tryd.func42 (some 7) (impl_isWarp.calls _ _ A0_1 c0_1 _ A0_2 c0_2 _ _ _ _ _ _ _ _ _ (cb HR0_1) HC0_1.out (cb HR0_2) HC0_2.out A3.out (hT.below bw)) ?_; rintro e w6 ⟨rfl, hb⟩; refine ⟨_, rfl, ?_⟩; replace BK316 := b_ BK316 hb; replace HB := hs hb; try clear hb))
  go_ret
  exact ⟨rt, bw⟩

/-! ### laws_FnExactWarpOk: function 3 -/
def laws_FnExactWarpOk.f (k : Nat) (a0_0 : Int) (l0_1 : List Int) (l0_2 : List Int) (a0_3 : Int) (a0_4 : Int) (a0_5 : Int) (a0_6 : Int) (a0_7 : Int) (a1 : Int) : Option (Bool) := (laws_szWarp.f a0_0 l0_1 l0_2 a0_3 a0_4 a0_5 a0_6 a0_7 1048576).bind fun t325 => (if t325 < 0 then (some true) else ((laws_toWarp.f k a0_0 l0_1 l0_2 a0_3 a0_4 a0_5 a0_6 a0_7).bind fun bt326 => ((spec_WarpOk.f k bt326.1 bt326.2.1 bt326.2.2.1 bt326.2.2.2.1 bt326.2.2.2.2.1 bt326.2.2.2.2.2.1 bt326.2.2.2.2.2.2.1 bt326.2.2.2.2.2.2.2 a1).bind fun t338 => ((laws_toWarp.f k a0_0 l0_1 l0_2 a0_3 a0_4 a0_5 a0_6 a0_7).bind fun bt339 => ((impl_WarpOk.f k bt339.1 bt339.2.1 bt339.2.2.1 bt339.2.2.2.1 bt339.2.2.2.2.1 bt339.2.2.2.2.2.1 bt339.2.2.2.2.2.2.1 bt339.2.2.2.2.2.2.2 a1).bind fun t352 => (if (t352 != t338) = true then (some false) else ((laws_toWarp.f k a0_0 l0_1 l0_2 a0_3 a0_4 a0_5 a0_6 a0_7).bind fun bt353 => ((laws_eqWarp.f k bt339.1 bt339.2.1 bt339.2.2.1 bt339.2.2.2.1 bt339.2.2.2.2.1 bt339.2.2.2.2.2.1 bt339.2.2.2.2.2.2.1 bt339.2.2.2.2.2.2.2 bt353.1 bt353.2.1 bt353.2.2.1 bt353.2.2.2.1 bt353.2.2.2.2.1 bt353.2.2.2.2.2.1 bt353.2.2.2.2.2.2.1 bt353.2.2.2.2.2.2.2).bind fun t365 => (if t365 = true then (some true) else (some false))))))))))
theorem laws_FnExactWarpOk.mono : ∀ a0 a1 a2 a3 a4 a5 a6 a7 a8 k, LeO (laws_FnExactWarpOk.f k a0 a1 a2 a3 a4 a5 a6 a7 a8) (laws_FnExactWarpOk.f (k + 1) a0 a1 a2 a3 a4 a5 a6 a7 a8) := by
  intro a0 a1 a2 a3 a4 a5 a6 a7 a8 k
  unfold laws_FnExactWarpOk.f
  repeat' first
    | (with_reducible first | exact impl_WarpOk.mono .. | exact laws_eqWarp.mono .. | exact laws_toWarp.mono .. | exact spec_WarpOk.mono .. | exact LeO.refl _ | exact LeO.none _ | refine LeO.ite ?_ ?_ | refine LeO.bind ?_ (fun _ => ?_))
    | exact LeO.none _ | refine LeO.ite ?_ ?_ | refine LeO.bind ?_ (fun _ => ?_)
set_option maxHeartbeats 2000000 in
set_option maxRecDepth 100000 in
theorem laws_FnExactWarpOk.calls (k : Nat) (a0_0 : Int) (A0_1 : Option Addr) (c0_1 : Nat) (l0_1 : List Int) (A0_2 : Option Addr) (c0_2 : Nat) (l0_2 : List Int) (a0_3 : Int) (a0_4 : Int) (a0_5 : Int) (a0_6 : Int) (a0_7 : Int) (a1 : Int) (r : Bool) (w : World) (hr0_1 : Kd.C (Kd.int .i64) w A0_1 l0_1.length l0_1) (hc0_1 : l0_1.length ≤ c0_1) (hr0_2 : Kd.C (Kd.int .i64) w A0_2 l0_2.length l0_2) (hc0_2 : l0_2.length ≤ c0_2) (h : laws_FnExactWarpOk.f k a0_0 l0_1 l0_2 a0_3 a0_4 a0_5 a0_6 a0_7 a1 = some r) (hT : GT w) :
    Calls Tryd.prog 3 #[.agg #[.int .i64 a0_0, .slice A0_1 l0_1.length c0_1, .slice A0_2 l0_2.length c0_2, .int .u32 a0_3, .int .i64 a0_4, .int .i64 a0_5, .int .i64 a0_6, .int .u32 a0_7], .int .i64 a1] w fun e w' => e = .returned (.bool r) ∧ Below w.heap.size w w' := by
  have hu25 := Tryd.underlying25
  have hu28 := Tryd.underlying28
  have HR0_1 := Aside0.mk hr0_1
  have HC0_1 := Aside0.mk hc0_1
  clear hr0_1 hc0_1
  have HR0_2 := Aside0.mk hr0_2
  have HC0_2 := Aside0.mk hc0_2
  clear hr0_2 hc0_2
  have HB := Aside0.mk (Below.refl w.heap.size w)
  unfold laws_FnExactWarpOk.f at h
  have H := h
  clear h
  replace H := bn H
  obtain ⟨t325, A3, H⟩ := H
  try dsimp only at H
  have HU4 := Aside0.mk H
  clear H
  go_enter Tryd.func3, Tryd.ntmps3
  go_upto_if 13 with (first | ((with_reducible refine gd 2 ?_); refine bx 2 25 #[.int .i64 a0_0, .slice A0_1 l0_1.length c0_1, .slice A0_2 l0_2.length c0_2, .int .u32 a0_3, .int .i64 a0_4, .int .i64 a0_5, .int .i64 a0_6, .int .u32 a0_7] ?_; clear HB; intro gb324 w5 hg BK324 hb GE324 HB; clear hb hg; obtain ⟨z6_0, z6_1, z6_2, z6_3, z6_4, z6_5, z6_6, z6_7⟩ := ca8 BK324; obtain ⟨f6_0, f6_1, f6_2, f6_3, f6_4, f6_5, f6_6, f6_7⟩ := fa8 BK324) | ((with_reducible refine gf 8 ?_); refine gc Tryd.func8 (some 11) (laws_szWarp.calls _ A0_1 c0_1 _ A0_2 c0_2 _ _ _ _ _ _ _ _ _ (cb HR0_1) HC0_1.out (cb HR0_2) HC0_2.out A3.out) ?_; rintro e w7 ⟨rfl, hb⟩; refine ⟨_, rfl, ?_⟩; replace BK324 := b_ BK324 hb; replace HB := hs hb; try clear hb))
  (try refine ap ?_)
  have H := HU4.out
  clear HU4
  replace H := ilt H
  rcases H with ⟨c8b0, H⟩ | ⟨c8b0, H⟩
  · (first | rw [c8b0] | (simp only [i64_w, i32_w]; rw [c8b0]) | (simp only [c8b2, Bool.not_true, Bool.not_false]) | (simp only [c8b1, Bool.not_true, Bool.not_false]) | skip)
    obtain rfl := Option.some.inj H
    go_wp2
    go_ret
    exact ⟨rt, bw⟩
  · (first | rw [c8b0] | (simp only [i64_w, i32_w]; rw [c8b0]) | (simp only [c8b2, Bool.not_true, Bool.not_false]) | (simp only [c8b1, Bool.not_true, Bool.not_false]) | skip)
    replace H := bn H
    obtain ⟨⟨t326, t327, t330, t333, t334, t335, t336, t337⟩, A9, H⟩ := H
    try dsimp only at H
    replace H := bn H
    obtain ⟨t338, A10, H⟩ := H
    try dsimp only at H
    replace H := bn H
    obtain ⟨⟨t339, t340, t343, t346, t347, t348, t349, t350⟩, A11, H⟩ := H
    try dsimp only at H
    replace H := bn H
    obtain ⟨t352, A12, H⟩ := H
    try dsimp only at H
    have HU13 := Aside0.mk H
    clear H
    obtain ⟨z14_0, z14_1, z14_2, z14_3, z14_4, z14_5, z14_6, z14_7⟩ := ca8 BK324
    obtain ⟨f14_0, f14_1, f14_2, f14_3, f14_4, f14_5, f14_6, f14_7⟩ := fa8 BK324
    go_upto_if 25 with (first | ((with_reducible refine gf 10 ?_); refine gc Tryd.func10 (some 15) (laws_toWarp.calls _ _ A0_1 c0_1 _ A0_2 c0_2 _ _ _ _ _ _ _ _ _ _ _ _ _ _ _ (cb HR0_1) HC0_1.out (cb HR0_2) HC0_2.out A9.out) ?_; rintro e w15 ⟨v328, v331, rfl, ho0, ho1, hb⟩; refine ⟨_, rfl, ?_⟩; have HO329 := Aside0.mk (Kd.R_lower ho0 (below_size bw)); have HO332 := Aside0.mk (Kd.R_lower ho1 (below_size bw)); replace BK324 := b_ BK324 hb; replace HB := hs hb; try clear hb; (try clear ho0); (try clear ho1); obtain ⟨Ao16, co16, eo16⟩ := Kd.R_slice HO329.out; subst eo16; obtain ⟨Ao17, co17, eo17⟩ := Kd.R_slice HO332.out; subst eo17) | ((with_reducible refine gf 9 ?_); refine gc Tryd.func9 (some 17) (spec_WarpOk.calls _ _ Ao16 co16 _ Ao17 co17 _ _ _ _ _ _ _ _ _ (cr HO329) ((Kd.R_reads' HO329.out).2.1) (cr HO332) ((Kd.R_reads' HO332.out).2.1) A10.out) ?_; rintro e w18 ⟨rfl, hb⟩; refine ⟨_, rfl, ?_⟩; replace HO329 := Aside0.mk (Kd.R_below (ro HO329) hb); replace HO332 := Aside0.mk (Kd.R_below (ro HO332) hb); replace BK324 := b_ BK324 hb; replace HB := hs hb; try clear hb; obtain ⟨z19_0, z19_1, z19_2, z19_3, z19_4, z19_5, z19_6, z19_7⟩ := ca8 BK324; obtain ⟨f19_0, f19_1, f19_2, f19_3, f19_4, f19_5, f19_6, f19_7⟩ := fa8 BK324) | ((with_reducible refine gf 10 ?_); refine gc Tryd.func10 (some 19) (laws_toWarp.calls _ _ A0_1 c0_1 _ A0_2 c0_2 _ _ _ _ _ _ _ _ _ _ _ _ _ _ _ (cb HR0_1) HC0_1.out (cb HR0_2) HC0_2.out A11.out) ?_; rintro e w20 ⟨v341, v344, rfl, ho0, ho1, hb⟩; refine ⟨_, rfl, ?_⟩; have HO342 := Aside0.mk (Kd.R_lower (Kd.R_new' (Kd.R_new' ho0 (Kd.R_lt (ro HO329))) (Kd.R_lt (ro HO332))) (below_size bw)); have HO345 := Aside0.mk (Kd.R_lower (Kd.R_new' (Kd.R_new' ho1 (Kd.R_lt (ro HO329))) (Kd.R_lt (ro HO332))) (below_size bw)); replace HO329 := Aside0.mk (Kd.R_mono (Kd.R_told (Kd.R_told (Kd.R_old (ro HO329) hb) (Kd.R_base ho0)) (Kd.R_base ho1)) (fun _ h_ => h_.1)); replace HO332 := Aside0.mk (Kd.R_mono (Kd.R_told (Kd.R_told (Kd.R_old (ro HO332) hb) (Kd.R_base ho0)) (Kd.R_base ho1)) (fun _ h_ => h_.1)); replace BK324 := b_ BK324 hb; replace HB := hs hb; try clear hb; (try clear ho0); (try clear ho1)) | ((with_reducible refine gd 7 ?_); refine bx 7 28 #[.int .i64 0, .slice none 0 0, .slice none 0 0, .int .u32 0, .int .i64 0, .int .i64 0, .int .i64 0, .int .u32 0] ?_; clear HB; intro gb351 w21 hg BK351 hb GE351 HB; replace HO329 := Aside0.mk (Kd.R_below (ro HO329) hb); replace HO332 := Aside0.mk (Kd.R_below (ro HO332) hb); replace HO342 := Aside0.mk (Kd.R_below (ro HO342) hb); replace HO345 := Aside0.mk (Kd.R_below (ro HO345) hb); have NB324_351 := nl BK324 hg; have NB351_324 := ng BK324 hg; replace BK324 := b_ BK324 hb; clear hb hg; have hnb22 := NB351_324.out; have hnc22 := NB324_351.out; obtain ⟨z23_0, z23_1, z23_2, z23_3, z23_4, z23_5, z23_6, z23_7⟩ := ca8 BK351; obtain ⟨f23_0, f23_1, f23_2, f23_3, f23_4, f23_5, f23_6, f23_7⟩ := fa8 BK351; obtain ⟨Ao24, co24, eo24⟩ := Kd.R_slice HO342.out; subst eo24; obtain ⟨Ao25, co25, eo25⟩ := Kd.R_slice HO345.out; subst eo25) | ((with_reducible refine gf 11 ?_); refine gl 11 Tryd.func11 (some 22) #[.agg #[.int .i64 t339, .slice Ao24 t340.length co24, .slice Ao25 t343.length co25, .int .u32 t346, .int .i64 t347, .int .i64 t348, .int .i64 t349, .int .u32 t350], .int .i64 a1] ?_; (with_reducible refine (impl_WarpOk.calls _ _ _ _ _ _ _ _ _ _ _ _ _ _ _ _ ?side1 ?side2 ?side3 ?side4 A12.out (hT.below bw)).mono ?_); (case side1 => refine (Kd.R_reads' (e := 3) (base := w.heap.size) (ok := fun k_ => ((some k_ ≠ (.slice Ao25 t343.length co25 : Value).ownBlock ∧ some k_ ≠ (.slice Ao16 t327.length co16 : Value).ownBlock) ∧ some k_ ≠ (.slice Ao17 t330.length co17 : Value).ownBlock)) (n := t340.length) (c := co24) ?_).2.2; exact (by (with_reducible repeat (first | apply Kd.R_alloc | apply Kd.R_drewN | apply Kd.R_drew)); exact (Kd.R_mono (Kd.R_far (p := ⟨gb351, 7, none⟩) (Kd.R_far (p := ⟨gb351, 6, none⟩) (Kd.R_far (p := ⟨gb351, 5, none⟩) (Kd.R_far (p := ⟨gb351, 4, none⟩) (Kd.R_far (p := ⟨gb351, 3, none⟩) (Kd.R_far (p := ⟨gb351, 2, none⟩) (Kd.R_far (p := ⟨gb351, 1, none⟩) (Kd.R_far (p := ⟨gb351, 0, none⟩) (Kd.R_types HO342.out BK351.out (by decide)) (fun _ hk => hk.2) (.int .i64 t339)) (fun _ hk => hk.2) (.slice Ao24 t340.length co24)) (fun _ hk => hk.2) (.slice Ao25 t343.length co25)) (fun _ hk => hk.2) (.int .u32 t346)) (fun _ hk => hk.2) (.int .i64 t347)) (fun _ hk => hk.2) (.int .i64 t348)) (fun _ hk => hk.2) (.int .i64 t349)) (fun _ hk => hk.2) (.int .u32 t350)) (fun _ h_ => h_.1)))); (case side2 => exact (Kd.R_reads' HO342.out).2.1); (case side3 => refine (Kd.R_reads' (e := 3) (base := w.heap.size) (ok := fun k_ => ((some k_ ≠ (.slice Ao24 t340.length co24 : Value).ownBlock ∧ some k_ ≠ (.slice Ao16 t327.length co16 : Value).ownBlock) ∧ some k_ ≠ (.slice Ao17 t330.length co17 : Value).ownBlock)) (n := t343.length) (c := co25) ?_).2.2; exact (by (with_reducible repeat (first | apply Kd.R_alloc | apply Kd.R_drewN | apply Kd.R_drew)); exact (Kd.R_mono (Kd.R_far (p := ⟨gb351, 7, none⟩) (Kd.R_far (p := ⟨gb351, 6, none⟩) (Kd.R_far (p := ⟨gb351, 5, none⟩) (Kd.R_far (p := ⟨gb351, 4, none⟩) (Kd.R_far (p := ⟨gb351, 3, none⟩) (Kd.R_far (p := ⟨gb351, 2, none⟩) (Kd.R_far (p := ⟨gb351, 1, none⟩) (Kd.R_far (p := ⟨gb351, 0, none⟩) (Kd.R_types HO345.out BK351.out (by decide)) (fun _ hk => hk.2) (.int .i64 t339)) (fun _ hk => hk.2) (.slice Ao24 t340.length co24)) (fun _ hk => hk.2) (.slice Ao25 t343.length co25)) (fun _ hk => hk.2) (.int .u32 t346)) (fun _ hk => hk.2) (.int .i64 t347)) (fun _ hk => hk.2) (.int .i64 t348)) (fun _ hk => hk.2) (.int .i64 t349)) (fun _ hk => hk.2) (.int .u32 t350)) (fun _ h_ => h_.1)))); (case side4 => exact (Kd.R_reads' HO345.out).2.1); rintro e w26 ⟨rfl, hb⟩; refine ⟨_, rfl, ?_⟩; replace HO329 := Aside0.mk (Kd.R_below (by (with_reducible repeat (first | apply Kd.R_alloc | apply Kd.R_drewN | apply Kd.R_drew)); exact (Kd.R_mono (Kd.R_far (p := ⟨gb351, 7, none⟩) (Kd.R_far (p := ⟨gb351, 6, none⟩) (Kd.R_far (p := ⟨gb351, 5, none⟩) (Kd.R_far (p := ⟨gb351, 4, none⟩) (Kd.R_far (p := ⟨gb351, 3, none⟩) (Kd.R_far (p := ⟨gb351, 2, none⟩) (Kd.R_far (p := ⟨gb351, 1, none⟩) (Kd.R_far (p := ⟨gb351, 0, none⟩) (Kd.R_types HO329.out BK351.out (by decide)) (fun _ hk => hk.2) (.int .i64 t339)) (fun _ hk => hk.2) (.slice Ao24 t340.length co24)) (fun _ hk => hk.2) (.slice Ao25 t343.length co25)) (fun _ hk => hk.2) (.int .u32 t346)) (fun _ hk => hk.2) (.int .i64 t347)) (fun _ hk => hk.2) (.int .i64 t348)) (fun _ hk => hk.2) (.int .i64 t349)) (fun _ hk => hk.2) (.int .u32 t350)) (fun _ h_ => h_.1))) hb); replace HO332 := Aside0.mk (Kd.R_below (by (with_reducible repeat (first | apply Kd.R_alloc | apply Kd.R_drewN | apply Kd.R_drew)); exact (Kd.R_mono (Kd.R_far (p := ⟨gb351, 7, none⟩) (Kd.R_far (p := ⟨gb351, 6, none⟩) (Kd.R_far (p := ⟨gb351, 5, none⟩) (Kd.R_far (p := ⟨gb351, 4, none⟩) (Kd.R_far (p := ⟨gb351, 3, none⟩) (Kd.R_far (p := ⟨gb351, 2, none⟩) (Kd.R_far (p := ⟨gb351, 1, none⟩) (Kd.R_far (p := ⟨gb351, 0, none⟩) (Kd.R_types HO332.out BK351.out (by decide)) (fun _ hk => hk.2) (.int .i64 t339)) (fun _ hk => hk.2) (.slice Ao24 t340.length co24)) (fun _ hk => hk.2) (.slice Ao25 t343.length co25)) (fun _ hk => hk.2) (.int .u32 t346)) (fun _ hk => hk.2) (.int .i64 t347)) (fun _ hk => hk.2) (.int .i64 t348)) (fun _ hk => hk.2) (.int .i64 t349)) (fun _ hk => hk.2) (.int .u32 t350)) (fun _ h_ => h_.1))) hb); replace HO342 := Aside0.mk (Kd.R_below (by (with_reducible repeat (first | apply Kd.R_alloc | apply Kd.R_drewN | apply Kd.R_drew)); exact (Kd.R_mono (Kd.R_far (p := ⟨gb351, 7, none⟩) (Kd.R_far (p := ⟨gb351, 6, none⟩) (Kd.R_far (p := ⟨gb351, 5, none⟩) (Kd.R_far (p := ⟨gb351, 4, none⟩) (Kd.R_far (p := ⟨gb351, 3, none⟩) (Kd.R_far (p := ⟨gb351, 2, none⟩) (Kd.R_far (p := ⟨gb351, 1, none⟩) (Kd.R_far (p := ⟨gb351, 0, none⟩) (Kd.R_types HO342.out BK351.out (by decide)) (fun _ hk => hk.2) (.int .i64 t339)) (fun _ hk => hk.2) (.slice Ao24 t340.length co24)) (fun _ hk => hk.2) (.slice Ao25 t343.length co25)) (fun _ hk => hk.2) (.int .u32 t346)) (fun _ hk => hk.2) (.int .i64 t347)) (fun _ hk => hk.2) (.int .i64 t348)) (fun _ hk => hk.2) (.int .i64 t349)) (fun _ hk => hk.2) (.int .u32 t350)) (fun _ h_ => h_.1))) hb); replace HO345 := Aside0.mk (Kd.R_below (by (with_reducible repeat (first | apply Kd.R_alloc | apply Kd.R_drewN | apply Kd.R_drew)); exact (Kd.R_mono (Kd.R_far (p := ⟨gb351, 7, none⟩) (Kd.R_far (p := ⟨gb351, 6, none⟩) (Kd.R_far (p := ⟨gb351, 5, none⟩) (Kd.R_far (p := ⟨gb351, 4, none⟩) (Kd.R_far (p := ⟨gb351, 3, none⟩) (Kd.R_far (p := ⟨gb351, 2, none⟩) (Kd.R_far (p := ⟨gb351, 1, none⟩) (Kd.R_far (p := ⟨gb351, 0, none⟩) (Kd.R_types HO345.out BK351.out (by decide)) (fun _ hk => hk.2) (.int .i64 t339)) (fun _ hk => hk.2) (.slice Ao24 t340.length co24)) (fun _ hk => hk.2) (.slice Ao25 t343.length co25)) (fun _ hk => hk.2) (.int .u32 t346)) (fun _ hk => hk.2) (.int .i64 t347)) (fun _ hk => hk.2) (.int .i64 t348)) (fun _ hk => hk.2) (.int .i64 t349)) (fun _ hk => hk.2) (.int .u32 t350)) (fun _ h_ => h_.1))) hb); replace BK324 := b_ BK324 hb; replace BK351 := bq BK351 #[.int .i64 t339, .slice Ao24 t340.length co24, .slice Ao25 t343.length co25, .int .u32 t346, .int .i64 t347, .int .i64 t348, .int .i64 t349, .int .u32 t350] hb; replace HB := hs hb; try clear hb))
    (try refine ap ?_)
    have H := HU13.out
    clear HU13
    by_cases c27 : (t352 != t338) = true
    · rw [if_pos c27] at H
      have c27b0 : (t352 != t338) = true := c27
      (try (have c27b1 : decide (t352 = t338) = false := by simpa using c27))
      (try (have c27b2 : (t352 == t338) = false := by simpa using c27))
      (try (have c27b3 : ¬ (t352 = t338) := by simpa using c27))
      clear c27
      (first | rw [c27b0] | (simp only [i64_w, i32_w]; rw [c27b0]) | (simp only [c27b2, Bool.not_true, Bool.not_false]) | (simp only [c27b1, Bool.not_true, Bool.not_false]) | skip)
      obtain rfl := Option.some.inj H
      go_wp2
      go_ret
      exact ⟨rt, bw⟩
    · rw [if_neg c27] at H
      have c27b0 : (t352 != t338) = false := by simpa using c27
      (try (have c27b1 : decide (t352 = t338) = true := by simpa using c27))
      (try (have c27b2 : (t352 == t338) = true := by simpa using c27))
      clear c27
      (first | rw [c27b0] | (simp only [i64_w, i32_w]; rw [c27b0]) | (simp only [c27b2, Bool.not_true, Bool.not_false]) | (simp only [c27b1, Bool.not_true, Bool.not_false]) | skip)
      replace H := bn H
      obtain ⟨⟨t353, t354, t357, t360, t361, t362, t363, t364⟩, A28, H⟩ := H
      try dsimp only at H
      replace H := bn H
      obtain ⟨t365, A29, H⟩ := H
      try dsimp only at H
      have HU30 := Aside0.mk H
      clear H
      try go_wp2
      replace HO329 := Aside0.mk (Kd.R_drew HO329.out)
      replace HO332 := Aside0.mk (Kd.R_drew HO332.out)
      replace HO342 := Aside0.mk (Kd.R_drew HO342.out)
      replace HO345 := Aside0.mk (Kd.R_drew HO345.out)
      replace BK324 := bd BK324
      replace BK351 := bd BK351
      replace HB := hd HB
      refine st0 5 (fun w' => CA w' gb351 0 [.int .i64 t339, .slice Ao24 t340.length co24, .slice Ao25 t343.length co25, .int .u32 t346, .int .i64 t347, .int .i64 t348, .int .i64 t349, .int .u32 t350] ∧ CA w' gb324 0 [.int .i64 a0_0, .slice A0_1 l0_1.length c0_1, .slice A0_2 l0_2.length c0_2, .int .u32 a0_3, .int .i64 a0_4, .int .i64 a0_5, .int .i64 a0_6, .int .u32 a0_7]) [] ⟨cx BK351, cx BK324⟩ ?_; intro hHeld
      generalize w26.drew = w31 at HO329 HO332 HO342 HO345 BK324 BK351 HB hHeld ⊢
      refine tk 0 26 (bl 5 1) ?_
      refine tk 1 27 (bl 5 3) ?_
      refine on_ 2 (some 28) (bl 5 7) (fun K hK => ?_)
      refine gq Tryd.func10 (laws_toWarp.calls _ _ A0_1 c0_1 _ A0_2 c0_2 _ _ _ _ _ _ _ _ _ _ _ _ _ _ _ (cb HR0_1) HC0_1.out (cb HR0_2) HC0_2.out A28.out) ?_
      rintro e w32 ⟨v355, v358, rfl, ho0, ho1, hb⟩
      refine ⟨_, rfl, ?_⟩
      have HO356 := Aside0.mk (Kd.R_lower (Kd.R_new' (Kd.R_new' (Kd.R_new' (Kd.R_new' ho0 (Kd.R_lt (ro HO329))) (Kd.R_lt (ro HO332))) (Kd.R_lt (ro HO342))) (Kd.R_lt (ro HO345))) (below_size bw))
      have HO359 := Aside0.mk (Kd.R_lower (Kd.R_new' (Kd.R_new' (Kd.R_new' (Kd.R_new' ho1 (Kd.R_lt (ro HO329))) (Kd.R_lt (ro HO332))) (Kd.R_lt (ro HO342))) (Kd.R_lt (ro HO345))) (below_size bw))
      replace HO329 := Aside0.mk (Kd.R_mono (Kd.R_told (Kd.R_told (Kd.R_old (ro HO329) hb) (Kd.R_base ho0)) (Kd.R_base ho1)) (fun _ h_ => h_.1))
      replace HO332 := Aside0.mk (Kd.R_mono (Kd.R_told (Kd.R_told (Kd.R_old (ro HO332) hb) (Kd.R_base ho0)) (Kd.R_base ho1)) (fun _ h_ => h_.1))
      replace HO342 := Aside0.mk (Kd.R_mono (Kd.R_told (Kd.R_told (Kd.R_old (ro HO342) hb) (Kd.R_base ho0)) (Kd.R_base ho1)) (fun _ h_ => h_.1))
      replace HO345 := Aside0.mk (Kd.R_mono (Kd.R_told (Kd.R_told (Kd.R_old (ro HO345) hb) (Kd.R_base ho0)) (Kd.R_base ho1)) (fun _ h_ => h_.1))
      replace BK324 := b_ BK324 hb
      replace BK351 := b_ BK351 hb
      replace HB := hs hb
      (try clear hb)
      (try clear hb2)
      (try clear hk)
      (try clear hi)
      (try clear ho0)
      (try clear ho1)
      obtain ⟨Ao33, co33, eo33⟩ := Kd.R_slice HO356.out
      (first | subst eo33 | (injection eo33 with f1_ f2_ f3_; have f4_ := f1_.symm; have f5_ := f3_.symm; clear f1_ f2_ f3_; subst f4_; subst f5_))
      obtain ⟨Ao34, co34, eo34⟩ := Kd.R_slice HO359.out
      (first | subst eo34 | (injection eo34 with f1_ f2_ f3_; have f4_ := f1_.symm; have f5_ := f3_.symm; clear f1_ f2_ f3_; subst f4_; subst f5_))
      refine hK.out _ _ ⟨cx BK351, cx BK324⟩ (fun hHeld => ?_)
      clear hK K
      refine nm ?_
      refine on_ 3 (some 29) (bl 5 15) (fun K hK => ?_)
      refine gq Tryd.func12 (laws_eqWarp.calls _ _ Ao24 co24 _ Ao25 co25 _ _ _ _ _ _ _ Ao33 co33 _ Ao34 co34 _ _ _ _ _ _ _ _ (cr HO342) ((Kd.R_reads' HO342.out).2.1) (cr HO345) ((Kd.R_reads' HO345.out).2.1) (cr HO356) ((Kd.R_reads' HO356.out).2.1) (cr HO359) ((Kd.R_reads' HO359.out).2.1) A29.out) ?_
      rintro e w35 ⟨rfl, hb⟩
      refine ⟨_, rfl, ?_⟩
      replace HO329 := Aside0.mk (Kd.R_below (ro HO329) hb)
      replace HO332 := Aside0.mk (Kd.R_below (ro HO332) hb)
      replace HO342 := Aside0.mk (Kd.R_below (ro HO342) hb)
      replace HO345 := Aside0.mk (Kd.R_below (ro HO345) hb)
      replace HO356 := Aside0.mk (Kd.R_below (ro HO356) hb)
      replace HO359 := Aside0.mk (Kd.R_below (ro HO359) hb)
      replace BK324 := b_ BK324 hb
      replace BK351 := b_ BK351 hb
      replace HB := hs hb
      (try clear hb)
      (try clear hb2)
      (try clear hk)
      (try clear hi)
      refine hK.out _ _ ⟨cx BK351, cx BK324⟩ (fun hHeld => ?_)
      clear hK K
      refine nm ?_
      refine pu 4 30 (bl 5 31) ?_
      refine dn ?_ _
      go_upto_if 30 with (fail)
      have H := HU30.out
      clear HU30
      replace H := ib H
      rcases H with ⟨rfl, H⟩ | ⟨rfl, H⟩
      · (try simp only [Bool.not_true, Bool.not_false])
        obtain rfl := Option.some.inj H
        go_wp2
        go_ret
        exact ⟨rt, bw⟩
      · (try simp only [Bool.not_true, Bool.not_false])
        obtain rfl := Option.some.inj H
        go_wp2
        go_ret
        exact ⟨rt, bw⟩

/-- THE ONE PURE STATEMENT of laws_FnExactWarpOk: yours. -/
def laws_FnExactWarpOk.Pure : Prop := ∀ (a0_0 : Int) (l0_1 : List Int) (l0_2 : List Int) (a0_3 : Int) (a0_4 : Int) (a0_5 : Int) (a0_6 : Int) (a0_7 : Int) (a1 : Int), (Lit.int .i64 a0_0).wf = true → (l0_1.length ≤ 9223372036854775807 ∧ ∀ x_ ∈ l0_1, (Lit.int .i64 x_).wf = true) → (l0_2.length ≤ 9223372036854775807 ∧ ∀ x_ ∈ l0_2, (Lit.int .i64 x_).wf = true) → (Lit.int .u32 a0_3).wf = true → (Lit.int .i64 a0_4).wf = true → (Lit.int .i64 a0_5).wf = true → (Lit.int .i64 a0_6).wf = true → (Lit.int .u32 a0_7).wf = true → (Lit.int .i64 a1).wf = true → ∃ k, laws_FnExactWarpOk.f k a0_0 l0_1 l0_2 a0_3 a0_4 a0_5 a0_6 a0_7 a1 = some true

end Go.Proofs.YtfhcnnkeokjfpaaDoor.PB1
