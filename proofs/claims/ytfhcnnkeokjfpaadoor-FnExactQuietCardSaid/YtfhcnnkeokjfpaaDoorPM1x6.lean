/- What functions of the program compute, each as a Lean function, and that the run comes to just that. Conditions: none. -/
import Derived.Test.YtfhcnnkeokjfpaaDoorTM1
import Derived.Test.YtfhcnnkeokjfpaaDoorT2M1
import Derived.Test.YtfhcnnkeokjfpaaDoorPM1x0
import Derived.Test.YtfhcnnkeokjfpaaDoorPM1x2
import Derived.Test.YtfhcnnkeokjfpaaDoorPM1x3
import Derived.Test.YtfhcnnkeokjfpaaDoorOwnersM1
namespace Go.Proofs.YtfhcnnkeokjfpaaDoor.PM1
open Go.RowKit Go.Proofs.YtfhcnnkeokjfpaaDoorW.PrintWords Go.Proofs.YtfhcnnkeokjfpaaDoorW.PrintLast Go.Proofs.YtfhcnnkeokjfpaaDoorW.PrintMore Go.Proofs.YtfhcnnkeokjfpaaDoor.T
attribute [local go_sem] max2_int min2_int max_two min_two max_three min_three max_four min_four   -- for this text's walks alone
set_option linter.unusedVariables false
set_option linter.unusedSimpArgs false

/-! ### impl_MachOk: function 26 -/
def impl_MachOk.f (l0_0 : List Int) (l0_1 : List (S28)) : Option (Bool) := (impl_owners.f l0_0 l0_1).bind fun bt780 => (some bt780.2)
set_option maxHeartbeats 2000000 in
set_option maxRecDepth 100000 in
theorem impl_MachOk.calls (A0_0 : Option Addr) (c0_0 : Nat) (l0_0 : List Int) (A0_1 : Option Addr) (c0_1 : Nat) (l0_1 : List (S28)) (r : Bool) (w : World) (hr0_0 : Kd.C (Kd.int .u32) w A0_0 l0_0.length l0_0) (hc0_0 : l0_0.length ≤ c0_0) (hr0_1 : Kd.C k28 w A0_1 l0_1.length l0_1) (hc0_1 : l0_1.length ≤ c0_1) (h : impl_MachOk.f l0_0 l0_1 = some r) (hT : GT w) :
  Calls Tryd.prog 26 #[.agg #[.slice A0_0 l0_0.length c0_0, .slice A0_1 l0_1.length c0_1]] w fun e w' => e = .returned (.bool r) ∧ Below w.heap.size w w' := by
 have hu56 := Tryd.underlying56
 have HR0_0 := Aside0.mk hr0_0
 have HC0_0 := Aside0.mk hc0_0
 clear hr0_0 hc0_0
 have HR0_1 := Aside0.mk hr0_1
 have HC0_1 := Aside0.mk hc0_1
 clear hr0_1 hc0_1
 have HB := Aside0.mk (Below.refl w.heap.size w)
 unfold impl_MachOk.f at h
 have H := h
 clear h
 replace H := bn H
 obtain ⟨⟨t780, t783⟩, A2, H⟩ := H
 try dsimp only at H
 obtain rfl := Option.some.inj H
 go_enter Tryd.func26, Tryd.ntmps26
 go_wp2_with (first | ((with_reducible refine gd 1 ?_); refine bx 1 56 #[.slice A0_0 l0_0.length c0_0, .slice A0_1 l0_1.length c0_1] ?_; clear HB; intro gb779 w3 hg BK779 hb GE779 HB; clear hb hg; obtain ⟨z4_0, z4_1⟩ := ca2 BK779; obtain ⟨f4_0, f4_1⟩ := fa2 BK779) | ((with_reducible refine gf 58 ?_); refine gc Tryd.func58 (some 7) (impl_owners.calls A0_0 c0_0 _ A0_1 c0_1 _ _ _ _ (cb HR0_0) HC0_0.out (cb HR0_1) HC0_1.out A2.out (hT.below bw)) ?_; rintro e w5 ⟨v781, rfl, ho0, hb⟩; refine ⟨_, rfl, ?_⟩; have HO782 := Aside0.mk (Kd.R_lower ho0 (below_size bw)); replace BK779 := b_ BK779 hb; replace HB := hs hb; try clear hb; (try clear ho0)))
 go_ret
 exact ⟨rt, bw⟩

/-! ### laws_FnExactMachOk: function 6 -/
def laws_FnExactMachOk.f (k : Nat) (l0_0 : List Int) (l0_1 : List (S25)) : Option (Bool) := (laws_szMach.f k l0_0 l0_1 1048576).bind fun t797 => (if t797 < 0 then (some true) else ((laws_toMach.f k l0_0 l0_1).bind fun bt798 => ((spec_MachOk.f k bt798.1 bt798.2).bind fun t804 => ((laws_toMach.f k l0_0 l0_1).bind fun bt805 => ((impl_MachOk.f bt805.1 bt805.2).bind fun t812 => (if (t812 != t804) = true then (some false) else ((laws_toMach.f k l0_0 l0_1).bind fun bt813 => ((laws_eqMach.f k bt805.1 bt805.2 bt813.1 bt813.2).bind fun t819 => (if t819 = true then (some true) else (some false))))))))))
theorem laws_FnExactMachOk.mono : ∀ a0 a1 k, LeO (laws_FnExactMachOk.f k a0 a1) (laws_FnExactMachOk.f (k + 1) a0 a1) := by
 intro a0 a1 k
 unfold laws_FnExactMachOk.f
 repeat' first
  | (with_reducible first | exact laws_eqMach.mono .. | exact laws_szMach.mono .. | exact laws_toMach.mono .. | exact spec_MachOk.mono .. | exact LeO.refl _ | exact LeO.none _ | refine LeO.ite ?_ ?_ | refine LeO.bind ?_ (fun _ => ?_))
  | exact LeO.none _ | refine LeO.ite ?_ ?_ | refine LeO.bind ?_ (fun _ => ?_)
set_option maxHeartbeats 2000000 in
set_option maxRecDepth 100000 in
theorem laws_FnExactMachOk.calls (k : Nat) (A0_0 : Option Addr) (c0_0 : Nat) (l0_0 : List Int) (A0_1 : Option Addr) (c0_1 : Nat) (l0_1 : List (S25)) (r : Bool) (w : World) (hr0_0 : Kd.C (Kd.int .u32) w A0_0 l0_0.length l0_0) (hc0_0 : l0_0.length ≤ c0_0) (hr0_1 : Kd.C k25 w A0_1 l0_1.length l0_1) (hc0_1 : l0_1.length ≤ c0_1) (h : laws_FnExactMachOk.f k l0_0 l0_1 = some r) (hT : GT w) :
  Calls Tryd.prog 6 #[.agg #[.slice A0_0 l0_0.length c0_0, .slice A0_1 l0_1.length c0_1]] w fun e w' => e = .returned (.bool r) ∧ Below w.heap.size w w' := by
 have hu50 := Tryd.underlying50
 have hu56 := Tryd.underlying56
 have HR0_0 := Aside0.mk hr0_0
 have HC0_0 := Aside0.mk hc0_0
 clear hr0_0 hc0_0
 have HR0_1 := Aside0.mk hr0_1
 have HC0_1 := Aside0.mk hc0_1
 clear hr0_1 hc0_1
 have HB := Aside0.mk (Below.refl w.heap.size w)
 unfold laws_FnExactMachOk.f at h
 have H := h
 clear h
 replace H := bn H
 obtain ⟨t797, A2, H⟩ := H
 try dsimp only at H
 have HU3 := Aside0.mk H
 clear H
 go_enter Tryd.func6, Tryd.ntmps6
 go_upto_if 11 with (first | ((with_reducible refine gd 1 ?_); refine bx 1 50 #[.slice A0_0 l0_0.length c0_0, .slice A0_1 l0_1.length c0_1] ?_; clear HB; intro gb796 w4 hg BK796 hb GE796 HB; clear hb hg; obtain ⟨z5_0, z5_1⟩ := ca2 BK796; obtain ⟨f5_0, f5_1⟩ := fa2 BK796) | ((with_reducible refine gf 23 ?_); refine gc Tryd.func23 (some 9) (laws_szMach.calls _ A0_0 c0_0 _ A0_1 c0_1 _ _ _ _ (cb HR0_0) HC0_0.out (cb HR0_1) HC0_1.out A2.out) ?_; rintro e w6 ⟨rfl, hb⟩; refine ⟨_, rfl, ?_⟩; replace BK796 := b_ BK796 hb; replace HB := hs hb; try clear hb))
 (try refine ap ?_)
 have H := HU3.out
 clear HU3
 replace H := ilt H
 rcases H with ⟨c7b0, H⟩ | ⟨c7b0, H⟩
 ·(first | rw [c7b0] | (simp only [i64_w, i32_w]; rw [c7b0]) | (simp only [c7b2, Bool.not_true, Bool.not_false]) | (simp only [c7b1, Bool.not_true, Bool.not_false]) | skip)
  obtain rfl := Option.some.inj H
  go_wp2
  go_ret
  exact ⟨rt, bw⟩
 ·(first | rw [c7b0] | (simp only [i64_w, i32_w]; rw [c7b0]) | (simp only [c7b2, Bool.not_true, Bool.not_false]) | (simp only [c7b1, Bool.not_true, Bool.not_false]) | skip)
  replace H := bn H
  obtain ⟨⟨t798, t801⟩, A8, H⟩ := H
  try dsimp only at H
  replace H := bn H
  obtain ⟨t804, A9, H⟩ := H
  try dsimp only at H
  replace H := bn H
  obtain ⟨⟨t805, t808⟩, A10, H⟩ := H
  try dsimp only at H
  replace H := bn H
  obtain ⟨t812, A11, H⟩ := H
  try dsimp only at H
  have HU12 := Aside0.mk H
  clear H
  obtain ⟨z13_0, z13_1⟩ := ca2 BK796
  obtain ⟨f13_0, f13_1⟩ := fa2 BK796
  go_upto_if 21 with (first | ((with_reducible refine gf 25 ?_); refine gc Tryd.func25 (some 13) (laws_toMach.calls _ A0_0 c0_0 _ A0_1 c0_1 _ _ _ _ (cb HR0_0) HC0_0.out (cb HR0_1) HC0_1.out A8.out) ?_; rintro e w14 ⟨v799, v802, rfl, ho0, ho1, hb⟩; refine ⟨_, rfl, ?_⟩; have HO800 := Aside0.mk (Kd.R_lower ho0 (below_size bw)); have HO803 := Aside0.mk (Kd.S_lower ho1 (below_size bw)); replace BK796 := b_ BK796 hb; replace HB := hs hb; try clear hb; (try clear ho0); (try clear ho1); obtain ⟨Ao15, co15, eo15⟩ := Kd.R_slice HO800.out; subst eo15; obtain ⟨Ao16, co16, eo16⟩ := Kd.S_slice HO803.out; subst eo16) | ((with_reducible refine gf 24 ?_); refine gl 24 Tryd.func24 (some 14) #[.agg #[.slice Ao15 t798.length co15, .slice Ao16 t801.length co16]] ?_; (with_reducible refine (spec_MachOk.calls _ _ _ _ _ _ _ _ _ ?side1 ?side2 ?side3 ?side4 A9.out).mono ?_); (case side1 => repeat (first | exact (Kd.R_reads' HO800.out).2.2 | (with_reducible refine Kd.C_alloc ?_ _) | (with_reducible refine Kd.C_drewN ?_ _) | (with_reducible refine Kd.C_drew ?_))); (case side2 => exact (Kd.R_reads' HO800.out).2.1); (case side3 => repeat (first | exact (Kd.S_reads' HO803.out).2.2 | (with_reducible refine Kd.C_alloc ?_ _) | (with_reducible refine Kd.C_drewN ?_ _) | (with_reducible refine Kd.C_drew ?_))); (case side4 => exact (Kd.S_reads' HO803.out).2.1); rintro e w17 ⟨rfl, hb⟩; refine ⟨_, rfl, ?_⟩; replace HO800 := Aside0.mk (Kd.R_below (ro HO800) hb); replace HO803 := Aside0.mk (Kd.S_below (by (with_reducible repeat (first | apply Kd.S_alloc | apply Kd.S_drewN | apply Kd.S_drew)); exact HO803.out) hb); replace BK796 := b_ BK796 hb; replace HB := hs hb; try clear hb; obtain ⟨z18_0, z18_1⟩ := ca2 BK796; obtain ⟨f18_0, f18_1⟩ := fa2 BK796) | ((with_reducible refine gf 25 ?_); refine gc Tryd.func25 (some 16) (laws_toMach.calls _ A0_0 c0_0 _ A0_1 c0_1 _ _ _ _ (cb HR0_0) HC0_0.out (cb HR0_1) HC0_1.out A10.out) ?_; rintro e w19 ⟨v806, v809, rfl, ho0, ho1, hb⟩; refine ⟨_, rfl, ?_⟩; have HO807 := Aside0.mk (Kd.R_lower (Kd.R_new' ho0 (Kd.R_lt (ro HO800))) (below_size bw)); replace HO800 := Aside0.mk (Kd.R_elder' (ro HO800) (Kd.R_base ho0) hb); have HO810 := Aside0.mk (Kd.S_lower (Kd.S_new' ho1 (Kd.S_lt (by (with_reducible repeat (first | apply Kd.S_alloc | apply Kd.S_drewN | apply Kd.S_drew)); exact HO803.out))) (below_size bw)); replace HO803 := Aside0.mk (Kd.S_elder' (by (with_reducible repeat (first | apply Kd.S_alloc | apply Kd.S_drewN | apply Kd.S_drew)); exact HO803.out) (Kd.S_base ho1) hb); replace BK796 := b_ BK796 hb; replace HB := hs hb; try clear hb; (try clear ho0); (try clear ho1)) | ((with_reducible refine gd 5 ?_); refine bx 5 56 #[.slice none 0 0, .slice none 0 0] ?_; clear HB; intro gb811 w20 hg BK811 hb GE811 HB; replace HO800 := Aside0.mk (Kd.R_below (ro HO800) hb); replace HO803 := Aside0.mk (Kd.S_below (by (with_reducible repeat (first | apply Kd.S_alloc | apply Kd.S_drewN | apply Kd.S_drew)); exact HO803.out) hb); replace HO807 := Aside0.mk (Kd.R_below (ro HO807) hb); replace HO810 := Aside0.mk (Kd.S_below (by (with_reducible repeat (first | apply Kd.S_alloc | apply Kd.S_drewN | apply Kd.S_drew)); exact HO810.out) hb); have NB796_811 := nl BK796 hg; have NB811_796 := ng BK796 hg; replace BK796 := b_ BK796 hb; clear hb hg; obtain ⟨Ao21, co21, eo21⟩ := Kd.R_slice HO807.out; subst eo21; have hnb22 := NB811_796.out; have hnc22 := NB796_811.out; obtain ⟨z23_0, z23_1⟩ := ca2 BK811; obtain ⟨f23_0, f23_1⟩ := fa2 BK811; obtain ⟨Ao24, co24, eo24⟩ := Kd.S_slice HO810.out; subst eo24) | ((with_reducible refine gf 26 ?_); refine gl 26 Tryd.func26 (some 18) #[.agg #[.slice Ao21 t805.length co21, .slice Ao24 t808.length co24]] ?_; (with_reducible refine (impl_MachOk.calls _ _ _ _ _ _ _ _ ?side1 ?side2 ?side3 ?side4 A11.out (hT.below bw)).mono ?_); (case side1 => refine (Kd.R_reads' (e := 23) (base := w.heap.size) (ok := fun k_ => (True ∧ some k_ ≠ (.slice Ao15 t798.length co15 : Value).ownBlock)) (n := t805.length) (c := co21) ?_).2.2; exact (rx HO807 BK811)); (case side2 => exact (Kd.R_reads' HO807.out).2.1); (case side3 => refine (Kd.S_reads' (e := 28) (base := w.heap.size) (ok := fun k_ => (True ∧ some k_ ≠ (.slice Ao16 t801.length co16 : Value).ownBlock)) (n := t808.length) (c := co24) ?_).2.2; exact (by (with_reducible repeat (first | apply Kd.S_alloc | apply Kd.S_drewN | apply Kd.S_drew)); exact (Kd.S_mono (Kd.S_far (p := ⟨gb811, 1, none⟩) (Kd.S_far (p := ⟨gb811, 0, none⟩) (Kd.S_types HO810.out BK811.out (by decide)) (fun _ hk => hk.2) (.slice Ao21 t805.length co21)) (fun _ hk => hk.2) (.slice Ao24 t808.length co24)) (fun _ h_ => h_.1)))); (case side4 => exact (Kd.S_reads' HO810.out).2.1); rintro e w25 ⟨rfl, hb⟩; refine ⟨_, rfl, ?_⟩; replace HO800 := Aside0.mk (Kd.R_below (rx HO800 BK811) hb); replace HO803 := Aside0.mk (Kd.S_below (by (with_reducible repeat (first | apply Kd.S_alloc | apply Kd.S_drewN | apply Kd.S_drew)); exact (Kd.S_mono (Kd.S_far (p := ⟨gb811, 1, none⟩) (Kd.S_far (p := ⟨gb811, 0, none⟩) (Kd.S_types HO803.out BK811.out (by decide)) (fun _ hk => hk.2) (.slice Ao21 t805.length co21)) (fun _ hk => hk.2) (.slice Ao24 t808.length co24)) (fun _ h_ => h_.1))) hb); replace HO807 := Aside0.mk (Kd.R_below (rx HO807 BK811) hb); replace HO810 := Aside0.mk (Kd.S_below (by (with_reducible repeat (first | apply Kd.S_alloc | apply Kd.S_drewN | apply Kd.S_drew)); exact (Kd.S_mono (Kd.S_far (p := ⟨gb811, 1, none⟩) (Kd.S_far (p := ⟨gb811, 0, none⟩) (Kd.S_types HO810.out BK811.out (by decide)) (fun _ hk => hk.2) (.slice Ao21 t805.length co21)) (fun _ hk => hk.2) (.slice Ao24 t808.length co24)) (fun _ h_ => h_.1))) hb); replace BK796 := b_ BK796 hb; replace BK811 := bq BK811 #[.slice Ao21 t805.length co21, .slice Ao24 t808.length co24] hb; replace HB := hs hb; try clear hb))
  (try refine ap ?_)
  have H := HU12.out
  clear HU12
  by_cases c26 : (t812 != t804) = true
  ·rw [if_pos c26] at H
   have c26b0 : (t812 != t804) = true := c26
   (try (have c26b1 : decide (t812 = t804) = false := by simpa using c26))
   (try (have c26b2 : (t812 == t804) = false := by simpa using c26))
   (try (have c26b3 : ¬ (t812 = t804) := by simpa using c26))
   clear c26
   (first | rw [c26b0] | (simp only [i64_w, i32_w]; rw [c26b0]) | (simp only [c26b2, Bool.not_true, Bool.not_false]) | (simp only [c26b1, Bool.not_true, Bool.not_false]) | skip)
   obtain rfl := Option.some.inj H
   go_wp2
   go_ret
   exact ⟨rt, bw⟩
  ·rw [if_neg c26] at H
   have c26b0 : (t812 != t804) = false := by simpa using c26
   (try (have c26b1 : decide (t812 = t804) = true := by simpa using c26))
   (try (have c26b2 : (t812 == t804) = true := by simpa using c26))
   clear c26
   (first | rw [c26b0] | (simp only [i64_w, i32_w]; rw [c26b0]) | (simp only [c26b2, Bool.not_true, Bool.not_false]) | (simp only [c26b1, Bool.not_true, Bool.not_false]) | skip)
   replace H := bn H
   obtain ⟨⟨t813, t816⟩, A27, H⟩ := H
   try dsimp only at H
   replace H := bn H
   obtain ⟨t819, A28, H⟩ := H
   try dsimp only at H
   have HU29 := Aside0.mk H
   clear H
   try go_wp2
   replace HO800 := Aside0.mk (Kd.R_drew HO800.out)
   replace HO803 := Aside0.mk (Kd.S_drew HO803.out)
   replace HO807 := Aside0.mk (Kd.R_drew HO807.out)
   replace HO810 := Aside0.mk (Kd.S_drew HO810.out)
   replace BK796 := bd BK796
   replace BK811 := bd BK811
   replace HB := hd HB
   refine st0 5 (fun w' => CA w' gb811 0 [.slice Ao21 t805.length co21, .slice Ao24 t808.length co24] ∧ CA w' gb796 0 [.slice A0_0 l0_0.length c0_0, .slice A0_1 l0_1.length c0_1]) [] ⟨cx BK811, cx BK796⟩ ?_; intro hHeld
   generalize w25.drew = w30 at HO800 HO803 HO807 HO810 BK796 BK811 HB hHeld ⊢
   refine tk 0 22 (bl 5 1) ?_
   refine tk 1 23 (bl 5 3) ?_
   refine on_ 2 (some 24) (bl 5 7) (fun K hK => ?_)
   refine gq Tryd.func25 (laws_toMach.calls _ A0_0 c0_0 _ A0_1 c0_1 _ _ _ _ (cb HR0_0) HC0_0.out (cb HR0_1) HC0_1.out A27.out) ?_
   rintro e w31 ⟨v814, v817, rfl, ho0, ho1, hb⟩
   refine ⟨_, rfl, ?_⟩
   have HO815 := Aside0.mk (Kd.R_lower (Kd.R_new' (Kd.R_new' ho0 (Kd.R_lt (ro HO800))) (Kd.R_lt (ro HO807))) (below_size bw))
   replace HO800 := Aside0.mk (Kd.R_elder' (ro HO800) (Kd.R_base ho0) hb)
   replace HO807 := Aside0.mk (Kd.R_elder' (ro HO807) (Kd.R_base ho0) hb)
   have HO818 := Aside0.mk (Kd.S_lower (Kd.S_new' (Kd.S_new' ho1 (Kd.S_lt (by (with_reducible repeat (first | apply Kd.S_alloc | apply Kd.S_drewN | apply Kd.S_drew)); exact HO803.out))) (Kd.S_lt (by (with_reducible repeat (first | apply Kd.S_alloc | apply Kd.S_drewN | apply Kd.S_drew)); exact HO810.out))) (below_size bw))
   replace HO803 := Aside0.mk (Kd.S_elder' (by (with_reducible repeat (first | apply Kd.S_alloc | apply Kd.S_drewN | apply Kd.S_drew)); exact HO803.out) (Kd.S_base ho1) hb)
   replace HO810 := Aside0.mk (Kd.S_elder' (by (with_reducible repeat (first | apply Kd.S_alloc | apply Kd.S_drewN | apply Kd.S_drew)); exact HO810.out) (Kd.S_base ho1) hb)
   replace BK796 := b_ BK796 hb
   replace BK811 := b_ BK811 hb
   replace HB := hs hb
   (try clear hb)
   (try clear hb2)
   (try clear hk)
   (try clear hi)
   (try clear ho0)
   (try clear ho1)
   obtain ⟨Ao32, co32, eo32⟩ := Kd.R_slice HO815.out
   (first | subst eo32 | (injection eo32 with f1_ f2_ f3_; have f4_ := f1_.symm; have f5_ := f3_.symm; clear f1_ f2_ f3_; subst f4_; subst f5_))
   obtain ⟨Ao33, co33, eo33⟩ := Kd.S_slice HO818.out
   (first | subst eo33 | (injection eo33 with f1_ f2_ f3_; have f4_ := f1_.symm; have f5_ := f3_.symm; clear f1_ f2_ f3_; subst f4_; subst f5_))
   refine hK.out _ _ ⟨cx BK811, cx BK796⟩ (fun hHeld => ?_)
   clear hK K
   refine nm ?_
   refine on_ 3 (some 25) (bl 5 15) (fun K hK => ?_)
   refine gg Tryd.func27 #[.agg #[.slice Ao21 t805.length co21, .slice Ao24 t808.length co24], .agg #[.slice Ao32 t813.length co32, .slice Ao33 t816.length co33]] ?_
   with_reducible refine (laws_eqMach.calls _ _ _ _ _ _ _ _ _ _ _ _ _ _ _ ?side1 ?side2 ?side3 ?side4 ?side5 ?side6 ?side7 ?side8 A28.out).mono ?_
   (case side1 => repeat (first | exact (Kd.R_reads' HO807.out).2.2 | (with_reducible refine Kd.C_alloc ?_ _) | (with_reducible refine Kd.C_drewN ?_ _) | (with_reducible refine Kd.C_drew ?_)))
   (case side2 => exact (Kd.R_reads' HO807.out).2.1)
   (case side3 => repeat (first | exact (Kd.S_reads' HO810.out).2.2 | (with_reducible refine Kd.C_alloc ?_ _) | (with_reducible refine Kd.C_drewN ?_ _) | (with_reducible refine Kd.C_drew ?_)))
   (case side4 => exact (Kd.S_reads' HO810.out).2.1)
   (case side5 => repeat (first | exact (Kd.R_reads' HO815.out).2.2 | (with_reducible refine Kd.C_alloc ?_ _) | (with_reducible refine Kd.C_drewN ?_ _) | (with_reducible refine Kd.C_drew ?_)))
   (case side6 => exact (Kd.R_reads' HO815.out).2.1)
   (case side7 => repeat (first | exact (Kd.S_reads' HO818.out).2.2 | (with_reducible refine Kd.C_alloc ?_ _) | (with_reducible refine Kd.C_drewN ?_ _) | (with_reducible refine Kd.C_drew ?_)))
   (case side8 => exact (Kd.S_reads' HO818.out).2.1)
   rintro e w34 ⟨rfl, hb⟩
   refine ⟨_, rfl, ?_⟩
   replace HO800 := Aside0.mk (Kd.R_below (ro HO800) hb)
   replace HO803 := Aside0.mk (Kd.S_below (by (with_reducible repeat (first | apply Kd.S_alloc | apply Kd.S_drewN | apply Kd.S_drew)); exact HO803.out) hb)
   replace HO807 := Aside0.mk (Kd.R_below (ro HO807) hb)
   replace HO810 := Aside0.mk (Kd.S_below (by (with_reducible repeat (first | apply Kd.S_alloc | apply Kd.S_drewN | apply Kd.S_drew)); exact HO810.out) hb)
   replace HO815 := Aside0.mk (Kd.R_below (ro HO815) hb)
   replace HO818 := Aside0.mk (Kd.S_below (by (with_reducible repeat (first | apply Kd.S_alloc | apply Kd.S_drewN | apply Kd.S_drew)); exact HO818.out) hb)
   replace BK796 := b_ BK796 hb
   replace BK811 := b_ BK811 hb
   replace HB := hs hb
   (try clear hb)
   (try clear hb2)
   (try clear hk)
   (try clear hi)
   refine hK.out _ _ ⟨cx BK811, cx BK796⟩ (fun hHeld => ?_)
   clear hK K
   refine nm ?_
   refine pu 4 26 (bl 5 31) ?_
   refine dn ?_ _
   go_upto_if 26 with (fail)
   have H := HU29.out
   clear HU29
   replace H := ib H
   rcases H with ⟨rfl, H⟩ | ⟨rfl, H⟩
   ·(try simp only [Bool.not_true, Bool.not_false])
    obtain rfl := Option.some.inj H
    go_wp2
    go_ret
    exact ⟨rt, bw⟩
   ·(try simp only [Bool.not_true, Bool.not_false])
    obtain rfl := Option.some.inj H
    go_wp2
    go_ret
    exact ⟨rt, bw⟩

/-- THE ONE PURE STATEMENT of laws_FnExactMachOk: yours. -/
def laws_FnExactMachOk.Pure : Prop := ∀ (l0_0 : List Int) (l0_1 : List (S25)), (l0_0.length ≤ 9223372036854775807 ∧ ∀ x_ ∈ l0_0, (Lit.int .u32 x_).wf = true) → (l0_1.length ≤ 9223372036854775807 ∧ ∀ x_ ∈ l0_1, ((Lit.int .i64 x_.f0).wf = true ∧ (x_.f1.length ≤ 9223372036854775807 ∧ ∀ y_ ∈ x_.f1, (Lit.int .i64 y_).wf = true) ∧ (x_.f2.length ≤ 9223372036854775807 ∧ ∀ y_ ∈ x_.f2, (Lit.int .i64 y_).wf = true) ∧ (Lit.int .u32 x_.f3).wf = true ∧ (Lit.int .i64 x_.f4).wf = true ∧ (Lit.int .i64 x_.f5).wf = true ∧ (Lit.int .i64 x_.f6).wf = true ∧ (Lit.int .u32 x_.f7).wf = true)) → ∃ k, laws_FnExactMachOk.f k l0_0 l0_1 = some true

end Go.Proofs.YtfhcnnkeokjfpaaDoor.PM1
namespace Go.Proofs.YtfhcnnkeokjfpaaDoor.PM1
open Go.RowKit Go.Proofs.YtfhcnnkeokjfpaaDoorW.PrintWords Go.Proofs.YtfhcnnkeokjfpaaDoorW.PrintLast Go.Proofs.YtfhcnnkeokjfpaaDoorW.PrintMore
attribute [local go_sem] max2_int min2_int max_two min_two max_three min_three max_four min_four   -- for this text's walks alone
set_option linter.unusedVariables false
set_option linter.unusedSimpArgs false

/-! ### spec_l08Quiet: function 61 -/
def spec_l08Quiet.l0 : Nat → Int → List Int → List (S28) → Option (Bool)
 | 0, _, _, _ => none
 | k + 1, x3, x821000, x821001 => if x3 < (x821001.length : Int) then (if 0 ≤ x3 then (if ((rd_T28 x821001 x3).f0) = 0 then (spec_l08Quiet.l0 k (wrap64 (x3 + 1)) x821000 x821001) else (some false)) else (none)) else (some true)
def spec_l08Quiet.f (k : Nat) (l0_0 : List Int) (l0_1 : List (S28)) : Option (Bool) := spec_l08Quiet.l0 k 0 l0_0 l0_1
theorem spec_l08Quiet.mono_l : ∀ k, (∀ y0 y1 y2, LeO (spec_l08Quiet.l0 k y0 y1 y2) (spec_l08Quiet.l0 (k + 1) y0 y1 y2))
 | 0 => fun _ _ _ r h => by simp [spec_l08Quiet.l0] at h
 | k + 1 => by
  have ih0 := spec_l08Quiet.mono_l k
  ·intro y0 y1 y2
   unfold spec_l08Quiet.l0
   repeat' first
   | (with_reducible exact ih0 _ _ _)
   | (with_reducible exact LeO.refl _)
   | (with_reducible exact LeO.none _)
   | (with_reducible refine LeO.ite ?_ ?_)
   | (with_reducible refine LeO.bind ?_ (fun _ => ?_))
   | exact ih0 _ _ _
   | exact LeO.none _
   | refine LeO.ite ?_ ?_
   | refine LeO.bind ?_ (fun _ => ?_)
theorem spec_l08Quiet.mono : ∀ a0 a1 k, LeO (spec_l08Quiet.f k a0 a1) (spec_l08Quiet.f (k + 1) a0 a1) := by
 intro a0 a1 k
 have ih0 := spec_l08Quiet.mono_l k
 unfold spec_l08Quiet.f
 repeat' first
   | (with_reducible exact ih0 _ _ _)
   | (with_reducible exact LeO.refl _)
   | (with_reducible exact LeO.none _)
   | (with_reducible refine LeO.ite ?_ ?_)
   | (with_reducible refine LeO.bind ?_ (fun _ => ?_))
   | exact ih0 _ _ _
   | exact LeO.none _
   | refine LeO.ite ?_ ?_
   | refine LeO.bind ?_ (fun _ => ?_)
set_option maxHeartbeats 8000000 in
set_option maxRecDepth 100000 in
theorem spec_l08Quiet.calls (k : Nat) (A0_0 : Option Addr) (c0_0 : Nat) (l0_0 : List Int) (A0_1 : Option Addr) (c0_1 : Nat) (l0_1 : List (S28)) (r : Bool) (w : World) (hr0_0 : Kd.C (Kd.int .u32) w A0_0 l0_0.length l0_0) (hc0_0 : l0_0.length ≤ c0_0) (hr0_1 : Kd.C k28 w A0_1 l0_1.length l0_1) (hc0_1 : l0_1.length ≤ c0_1) (h : spec_l08Quiet.f k l0_0 l0_1 = some r) :
  Calls Tryd.prog 61 #[.agg #[.slice A0_0 l0_0.length c0_0, .slice A0_1 l0_1.length c0_1]] w fun e w' => e = .returned (.bool r) ∧ Below w.heap.size w w' := by
 have hu56 := Tryd.underlying56
 have HR0_0 := Aside0.mk hr0_0
 have HC0_0 := Aside0.mk hc0_0
 clear hr0_0 hc0_0
 have HR0_1 := Aside0.mk hr0_1
 have HC0_1 := Aside0.mk hc0_1
 clear hr0_1 hc0_1
 have HB := Aside0.mk (Below.refl w.heap.size w)
 unfold spec_l08Quiet.f at h
 have H := h
 clear h
 have H' := Aside0.mk H
 clear H
 go_enter Tryd.func61, Tryd.ntmps61
 go_wp2_with (first | ((with_reducible refine gate_dst (N := 1) rfl ?_); refine box_event ?hg (N := 1) ?hd (cs := #[.slice A0_0 l0_0.length c0_0, .slice A0_1 l0_1.length c0_1]) (t := 56) ?hr ?_; (case hd => rfl); (case hg => rfl); (case hr => first | (go_simp; done) | (go_simp; rfl)); intro gb820 hg w2 hbox hb; have n0_ := Aside0.mk (below_step (by repeat (first | (with_reducible first | exact HB.out | apply below_alloc | apply pw_below_drewN | apply below_drew1) | exact HB.out)) hb); have n1_ := Aside0.mk (hbox); have n2_ := Aside0.mk ((by rw [hg]; exact (below_size (by repeat (first | (with_reducible first | exact HB.out | apply below_alloc | apply pw_below_drewN | apply below_drew1) | exact HB.out))) : w.heap.size ≤ gb820)); have n3_ := Aside0.mk ((by rw [hg]; exact (below_size (by repeat (first | (with_reducible first | exact HB.out | apply below_alloc | apply pw_below_drewN | apply below_drew1) | exact HB.out))) : w.heap.size ≤ gb820)); clear HB; have HB := n0_; have BK820 := n1_; have GW820 := n2_; have GE820 := n3_; clear n0_ n1_ n2_ n3_; clear hb hbox hg))
 go_loopg [3] k (fun kq v3 w' => ∃ (x3_1 : Int), v3 = .int .i64 x3_1 ∧ Aside0 (spec_l08Quiet.l0 kq x3_1 l0_0 l0_1 = some r) ∧ Aside0 (kq ≤ k) ∧ Aside0 (w'.heap[gb820]? = some (.cells #[(.slice A0_0 l0_0.length c0_0), (.slice A0_1 l0_1.length c0_1)] 56 (0, 0))) ∧ Aside0 (Below w.heap.size w w'))
 case atStart => exact ⟨(0), (by first | rfl | (simp; done) | (simp [*]; done) | (simp; rw [Int.tdiv_eq_ediv_of_nonneg (by omega)])), H', ⟨Nat.le_refl _⟩, ⟨by (with_reducible repeat (first | refine blk_drewN ?_ _ | refine blk_drew ?_ | refine blk_alloc ?_ _)); exact BK820.out⟩, ⟨by repeat (first | (with_reducible first | exact HB.out | apply below_alloc | apply pw_below_drewN | apply below_drew1 | refine below_set ?_ GE820.out) | exact HB.out)⟩⟩
 case round =>
  clear H'
  try clear p2
  obtain ⟨x3_1, rfl, HA, HK1, BK820, HB⟩ := hrel
  cases gk with
  | zero => exact absurd HA.out (by simp [spec_l08Quiet.l0])
  | succ k1 =>
   have H := HA.out
   clear HA
   simp only [spec_l08Quiet.l0] at H
   by_cases c3 : x3_1 < (l0_1.length : Int)
   ·rw [if_pos c3] at H
    have c3b0 : decide (x3_1 < (l0_1.length : Int)) = true := decide_eq_true c3
    clear c3
    by_cases c4 : 0 ≤ x3_1
    ·rw [if_pos c4] at H
     have c4b0 : decide (0 ≤ x3_1) = true := decide_eq_true c4
     clear c4
     by_cases c5 : ((rd_T28 l0_1 x3_1).f0) = 0
     ·rw [if_pos c5] at H
      have c5b0 : (((rd_T28 l0_1 x3_1).f0) == 0) = true := beq_iff_eq.mpr c5
      have c5b1 : (((rd_T28 l0_1 x3_1).f0) != 0) = false := bne_eq_false_iff_eq.mpr c5
      clear c5
      have H' := Aside0.mk H
      clear H
      have hcz6_0 : wr.cell? ⟨gb820, 0, none⟩ = some (.slice A0_0 l0_0.length c0_0) := (blk_cell BK820.out 0).trans rfl
      have hcz6_1 : wr.cell? ⟨gb820, 1, none⟩ = some (.slice A0_1 l0_1.length c0_1) := (blk_cell BK820.out 1).trans rfl
      have hfz6_0 := blk_frozen BK820.out 0
      have hfz6_1 := blk_frozen BK820.out 1
      have p821 : 0 ≤ (x3_1 : Int) := of_decide_eq_true (by first | (with_reducible assumption) | assumption)
      have q821 : x3_1 < (l0_1.length : Int) := of_decide_eq_true (by first | (with_reducible assumption) | assumption)
      obtain ⟨ad821, A821_1, c821_1, A821_2, c821_2, e821, hx821_0, hx821_1, hx821_2, hx821_3, hx821_4, hx821_5, hx821_6, hx821_7, hl821_1, hi821_1, hl821_2, hi821_2⟩ := at_T28 HR0_1.out x3_1 p821 q821
      cases e821
      replace hx821_0 := (HB.out.cell (World.block_lt_of_cell? w _ hx821_0)).trans hx821_0
      replace hx821_1 := (HB.out.cell (World.block_lt_of_cell? w _ hx821_1)).trans hx821_1
      replace hx821_2 := (HB.out.cell (World.block_lt_of_cell? w _ hx821_2)).trans hx821_2
      replace hx821_3 := (HB.out.cell (World.block_lt_of_cell? w _ hx821_3)).trans hx821_3
      replace hx821_4 := (HB.out.cell (World.block_lt_of_cell? w _ hx821_4)).trans hx821_4
      replace hx821_5 := (HB.out.cell (World.block_lt_of_cell? w _ hx821_5)).trans hx821_5
      replace hx821_6 := (HB.out.cell (World.block_lt_of_cell? w _ hx821_6)).trans hx821_6
      replace hx821_7 := (HB.out.cell (World.block_lt_of_cell? w _ hx821_7)).trans hx821_7
      have HR821_1 := Aside0.mk hi821_1
      have HC821_1 := Aside0.mk hl821_1
      clear hi821_1 hl821_1
      have HR821_2 := Aside0.mk hi821_2
      have HC821_2 := Aside0.mk hl821_2
      clear hi821_2 hl821_2
      replace p821 := eq_true p821
      replace q821 := eq_true q821
      go_wp2
      go_roundg k1
      case measure => have := HK1.out; omega
      case rel => exact ⟨(wrap64 (x3_1 + 1)), (by first | rfl | (simp; done) | (simp [*]; done) | (simp; rw [Int.tdiv_eq_ediv_of_nonneg (by omega)])), H', ⟨by have := HK1.out; omega⟩, ⟨by (with_reducible repeat (first | refine blk_drewN ?_ _ | refine blk_drew ?_ | refine blk_alloc ?_ _)); exact BK820.out⟩, ⟨by repeat (first | (with_reducible first | exact HB.out | apply below_alloc | apply pw_below_drewN | apply below_drew1 | refine below_set ?_ GE820.out) | exact HB.out)⟩⟩
     ·rw [if_neg c5] at H
      have c5b0 : (((rd_T28 l0_1 x3_1).f0) == 0) = false := beq_eq_false_iff_ne.mpr c5
      have c5b1 : (((rd_T28 l0_1 x3_1).f0) != 0) = true := bne_iff_ne.mpr c5
      obtain rfl := Option.some.inj H
      have hcz7_0 : wr.cell? ⟨gb820, 0, none⟩ = some (.slice A0_0 l0_0.length c0_0) := (blk_cell BK820.out 0).trans rfl
      have hcz7_1 : wr.cell? ⟨gb820, 1, none⟩ = some (.slice A0_1 l0_1.length c0_1) := (blk_cell BK820.out 1).trans rfl
      have hfz7_0 := blk_frozen BK820.out 0
      have hfz7_1 := blk_frozen BK820.out 1
      have p821 : 0 ≤ (x3_1 : Int) := of_decide_eq_true (by first | (with_reducible assumption) | assumption)
      have q821 : x3_1 < (l0_1.length : Int) := of_decide_eq_true (by first | (with_reducible assumption) | assumption)
      obtain ⟨ad821, A821_1, c821_1, A821_2, c821_2, e821, hx821_0, hx821_1, hx821_2, hx821_3, hx821_4, hx821_5, hx821_6, hx821_7, hl821_1, hi821_1, hl821_2, hi821_2⟩ := at_T28 HR0_1.out x3_1 p821 q821
      cases e821
      replace hx821_0 := (HB.out.cell (World.block_lt_of_cell? w _ hx821_0)).trans hx821_0
      replace hx821_1 := (HB.out.cell (World.block_lt_of_cell? w _ hx821_1)).trans hx821_1
      replace hx821_2 := (HB.out.cell (World.block_lt_of_cell? w _ hx821_2)).trans hx821_2
      replace hx821_3 := (HB.out.cell (World.block_lt_of_cell? w _ hx821_3)).trans hx821_3
      replace hx821_4 := (HB.out.cell (World.block_lt_of_cell? w _ hx821_4)).trans hx821_4
      replace hx821_5 := (HB.out.cell (World.block_lt_of_cell? w _ hx821_5)).trans hx821_5
      replace hx821_6 := (HB.out.cell (World.block_lt_of_cell? w _ hx821_6)).trans hx821_6
      replace hx821_7 := (HB.out.cell (World.block_lt_of_cell? w _ hx821_7)).trans hx821_7
      have HR821_1 := Aside0.mk hi821_1
      have HC821_1 := Aside0.mk hl821_1
      clear hi821_1 hl821_1
      have HR821_2 := Aside0.mk hi821_2
      have HC821_2 := Aside0.mk hl821_2
      clear hi821_2 hl821_2
      replace p821 := eq_true p821
      replace q821 := eq_true q821
      go_wp2
      go_ret
      exact ⟨by first | rfl | (simp only [i64_w, i32_w] <;> rfl) | (simp [errW_none, errW_some] <;> rfl) | (simp [*, errW_none, errW_some] <;> rfl), by repeat (first | (with_reducible first | exact HB.out | apply below_alloc | apply pw_below_drewN | apply below_drew1 | refine below_set ?_ GE820.out) | exact HB.out)⟩
    ·rw [if_neg c4] at H
     exact absurd H (by simp)
   ·rw [if_neg c3] at H
    have c3b0 : decide (x3_1 < (l0_1.length : Int)) = false := decide_eq_false c3
    clear c3
    obtain rfl := Option.some.inj H
    have hcz8_0 : wr.cell? ⟨gb820, 0, none⟩ = some (.slice A0_0 l0_0.length c0_0) := (blk_cell BK820.out 0).trans rfl
    have hcz8_1 : wr.cell? ⟨gb820, 1, none⟩ = some (.slice A0_1 l0_1.length c0_1) := (blk_cell BK820.out 1).trans rfl
    have hfz8_0 := blk_frozen BK820.out 0
    have hfz8_1 := blk_frozen BK820.out 1
    go_wp2
    go_ret
    exact ⟨by first | rfl | (simp only [i64_w, i32_w] <;> rfl) | (simp [errW_none, errW_some] <;> rfl) | (simp [*, errW_none, errW_some] <;> rfl), by repeat (first | (with_reducible first | exact HB.out | apply below_alloc | apply pw_below_drewN | apply below_drew1 | refine below_set ?_ GE820.out) | exact HB.out)⟩

/-! ### spec_Quiet: function 28 -/
def spec_Quiet.f (k : Nat) (l0_0 : List Int) (l0_1 : List (S28)) : Option (Bool) := (spec_MachOk.f k l0_0 l0_1).bind fun t823 => (if t823 = true then ((spec_l08Quiet.f k l0_0 l0_1).bind fun t824 => (some t824)) else (some false))
theorem spec_Quiet.mono : ∀ a0 a1 k, LeO (spec_Quiet.f k a0 a1) (spec_Quiet.f (k + 1) a0 a1) := by
 intro a0 a1 k
 unfold spec_Quiet.f
 repeat' first
   | (with_reducible exact spec_MachOk.mono _ _ _)
   | (with_reducible exact spec_l08Quiet.mono _ _ _)
   | (with_reducible exact LeO.refl _)
   | (with_reducible exact LeO.none _)
   | (with_reducible refine LeO.ite ?_ ?_)
   | (with_reducible refine LeO.bind ?_ (fun _ => ?_))
   | exact spec_MachOk.mono _ _ _
   | exact spec_l08Quiet.mono _ _ _
   | exact LeO.none _
   | refine LeO.ite ?_ ?_
   | refine LeO.bind ?_ (fun _ => ?_)
set_option maxHeartbeats 8000000 in
set_option maxRecDepth 100000 in
theorem spec_Quiet.calls (k : Nat) (A0_0 : Option Addr) (c0_0 : Nat) (l0_0 : List Int) (A0_1 : Option Addr) (c0_1 : Nat) (l0_1 : List (S28)) (r : Bool) (w : World) (hr0_0 : Kd.C (Kd.int .u32) w A0_0 l0_0.length l0_0) (hc0_0 : l0_0.length ≤ c0_0) (hr0_1 : Kd.C k28 w A0_1 l0_1.length l0_1) (hc0_1 : l0_1.length ≤ c0_1) (h : spec_Quiet.f k l0_0 l0_1 = some r) :
  Calls Tryd.prog 28 #[.agg #[.slice A0_0 l0_0.length c0_0, .slice A0_1 l0_1.length c0_1]] w fun e w' => e = .returned (.bool r) ∧ Below w.heap.size w w' := by
 have hu56 := Tryd.underlying56
 have HR0_0 := Aside0.mk hr0_0
 have HC0_0 := Aside0.mk hc0_0
 clear hr0_0 hc0_0
 have HR0_1 := Aside0.mk hr0_1
 have HC0_1 := Aside0.mk hc0_1
 clear hr0_1 hc0_1
 have HB := Aside0.mk (Below.refl w.heap.size w)
 unfold spec_Quiet.f at h
 have H := h
 clear h
 replace H := Option.bind_eq_some_iff.mp H
 obtain ⟨t823, A20, H⟩ := H
 try dsimp only at H
 have A2 := Aside0.mk A20
 clear A20
 by_cases c3 : t823 = true
 ·subst c3
  rw [if_pos rfl] at H
  replace H := Option.bind_eq_some_iff.mp H
  obtain ⟨t824, A40, H⟩ := H
  try dsimp only at H
  have A4 := Aside0.mk A40
  clear A40
  obtain rfl := Option.some.inj H
  go_enter Tryd.func28, Tryd.ntmps28
  go_wp2_with (first | ((with_reducible refine gate_dst (N := 1) rfl ?_); refine box_event ?hg (N := 1) ?hd (cs := #[.slice A0_0 l0_0.length c0_0, .slice A0_1 l0_1.length c0_1]) (t := 56) ?hr ?_; (case hd => rfl); (case hg => rfl); (case hr => first | (go_simp; done) | (go_simp; rfl)); intro gb822 hg w5 hbox hb; have n0_ := Aside0.mk (below_step (by repeat (first | (with_reducible first | exact HB.out | apply below_alloc | apply pw_below_drewN | apply below_drew1) | exact HB.out)) hb); have n1_ := Aside0.mk (hbox); have n2_ := Aside0.mk ((by rw [hg]; exact (below_size (by repeat (first | (with_reducible first | exact HB.out | apply below_alloc | apply pw_below_drewN | apply below_drew1) | exact HB.out))) : w.heap.size ≤ gb822)); have n3_ := Aside0.mk ((by rw [hg]; exact (below_size (by repeat (first | (with_reducible first | exact HB.out | apply below_alloc | apply pw_below_drewN | apply below_drew1) | exact HB.out))) : w.heap.size ≤ gb822)); clear HB; have HB := n0_; have BK822 := n1_; have GW822 := n2_; have GE822 := n3_; clear n0_ n1_ n2_ n3_; clear hb hbox hg; have hcz6_0 : w5.cell? ⟨gb822, 0, none⟩ = some (.slice A0_0 l0_0.length c0_0) := (blk_cell BK822.out 0).trans rfl; have hcz6_1 : w5.cell? ⟨gb822, 1, none⟩ = some (.slice A0_1 l0_1.length c0_1) := (blk_cell BK822.out 1).trans rfl; have hfz6_0 := blk_frozen BK822.out 0; have hfz6_1 := blk_frozen BK822.out 1) | ((with_reducible refine gate_callee (f := 24) rfl ?_); refine goesL_ (some 4) rfl rfl Tryd.func24 (by kernel_rfl) rfl #[.agg #[.slice A0_0 l0_0.length c0_0, .slice A0_1 l0_1.length c0_1]] rfl (by (try simp only [List.map_toArray, List.map_cons, List.map_nil]); first | done | rfl | (simp only [List.length_drop, List.length_take]; rfl)) ?_; (with_reducible refine (spec_MachOk.calls k _ _ l0_0 _ _ l0_1 true _ ?side1 ?side2 ?side3 ?side4 A2.out).mono ?_); (case side1 => repeat (first | exact (Kd.C_below HR0_0.out HB.out) | (with_reducible refine Kd.C_alloc ?_ _) | (with_reducible refine Kd.C_drewN ?_ _) | (with_reducible refine Kd.C_drew ?_))); (case side2 => exact HC0_0.out); (case side3 => repeat (first | exact (Kd.C_below HR0_1.out HB.out) | (with_reducible refine Kd.C_alloc ?_ _) | (with_reducible refine Kd.C_drewN ?_ _) | (with_reducible refine Kd.C_drew ?_))); (case side4 => exact HC0_1.out); rintro e w7 ⟨rfl, hb⟩; refine ⟨_, rfl, ?_⟩; have n0_ := Aside0.mk (blk_below (g := gb822) (o := .cells #[.slice A0_0 l0_0.length c0_0, .slice A0_1 l0_1.length c0_1] 56 (0, 0)) (by (with_reducible repeat (first | refine blk_drewN ?_ _ | refine blk_drew ?_ | refine blk_alloc ?_ _)); exact BK822.out) hb); have n1_ := Aside0.mk (below_step (by repeat (first | (with_reducible first | exact HB.out | apply below_alloc | apply pw_below_drewN | apply below_drew1 | refine below_set ?_ GE822.out) | exact HB.out)) hb); clear BK822; clear HB; have BK822 := n0_; have HB := n1_; clear n0_ n1_; (try clear hb); (try clear hb2); (try clear hk); (try clear hi); have hcz8_0 : w7.cell? ⟨gb822, 0, none⟩ = some (.slice A0_0 l0_0.length c0_0) := (blk_cell BK822.out 0).trans rfl; have hcz8_1 : w7.cell? ⟨gb822, 1, none⟩ = some (.slice A0_1 l0_1.length c0_1) := (blk_cell BK822.out 1).trans rfl; have hfz8_0 := blk_frozen BK822.out 0; have hfz8_1 := blk_frozen BK822.out 1) | (go_at_call 61; (with_reducible refine (spec_l08Quiet.calls k _ _ l0_0 _ _ l0_1 t824 _ ?side1 ?side2 ?side3 ?side4 A4.out).mono ?_); (case side1 => repeat (first | exact (Kd.C_below HR0_0.out HB.out) | (with_reducible refine Kd.C_alloc ?_ _) | (with_reducible refine Kd.C_drewN ?_ _) | (with_reducible refine Kd.C_drew ?_))); (case side2 => exact HC0_0.out); (case side3 => repeat (first | exact (Kd.C_below HR0_1.out HB.out) | (with_reducible refine Kd.C_alloc ?_ _) | (with_reducible refine Kd.C_drewN ?_ _) | (with_reducible refine Kd.C_drew ?_))); (case side4 => exact HC0_1.out); rintro e w9 ⟨rfl, hb⟩; have n0_ := Aside0.mk (blk_below (g := gb822) (o := .cells #[.slice A0_0 l0_0.length c0_0, .slice A0_1 l0_1.length c0_1] 56 (0, 0)) (by (with_reducible repeat (first | refine blk_drewN ?_ _ | refine blk_drew ?_ | refine blk_alloc ?_ _)); exact BK822.out) hb); have n1_ := Aside0.mk (below_step (by repeat (first | (with_reducible first | exact HB.out | apply below_alloc | apply pw_below_drewN | apply below_drew1 | refine below_set ?_ GE822.out) | exact HB.out)) hb); clear BK822; clear HB; have BK822 := n0_; have HB := n1_; clear n0_ n1_; (try clear hb); (try clear hb2); (try clear hk); (try clear hi)))
  go_ret
  exact ⟨by first | rfl | (simp only [i64_w, i32_w] <;> rfl) | (simp [errW_none, errW_some] <;> rfl) | (simp [*, errW_none, errW_some] <;> rfl), by repeat (first | (with_reducible first | exact HB.out | apply below_alloc | apply pw_below_drewN | apply below_drew1 | refine below_set ?_ GE822.out) | exact HB.out)⟩
 ·replace c3 := Bool.eq_false_iff.mpr c3
  subst c3
  rw [if_neg (show ¬ (false = true) by decide)] at H
  obtain rfl := Option.some.inj H
  go_enter Tryd.func28, Tryd.ntmps28
  go_wp2_with (first | ((with_reducible refine gate_dst (N := 1) rfl ?_); refine box_event ?hg (N := 1) ?hd (cs := #[.slice A0_0 l0_0.length c0_0, .slice A0_1 l0_1.length c0_1]) (t := 56) ?hr ?_; (case hd => rfl); (case hg => rfl); (case hr => first | (go_simp; done) | (go_simp; rfl)); intro gb822 hg w10 hbox hb; have n0_ := Aside0.mk (below_step (by repeat (first | (with_reducible first | exact HB.out | apply below_alloc | apply pw_below_drewN | apply below_drew1) | exact HB.out)) hb); have n1_ := Aside0.mk (hbox); have n2_ := Aside0.mk ((by rw [hg]; exact (below_size (by repeat (first | (with_reducible first | exact HB.out | apply below_alloc | apply pw_below_drewN | apply below_drew1) | exact HB.out))) : w.heap.size ≤ gb822)); have n3_ := Aside0.mk ((by rw [hg]; exact (below_size (by repeat (first | (with_reducible first | exact HB.out | apply below_alloc | apply pw_below_drewN | apply below_drew1) | exact HB.out))) : w.heap.size ≤ gb822)); clear HB; have HB := n0_; have BK822 := n1_; have GW822 := n2_; have GE822 := n3_; clear n0_ n1_ n2_ n3_; clear hb hbox hg; have hcz11_0 : w10.cell? ⟨gb822, 0, none⟩ = some (.slice A0_0 l0_0.length c0_0) := (blk_cell BK822.out 0).trans rfl; have hcz11_1 : w10.cell? ⟨gb822, 1, none⟩ = some (.slice A0_1 l0_1.length c0_1) := (blk_cell BK822.out 1).trans rfl; have hfz11_0 := blk_frozen BK822.out 0; have hfz11_1 := blk_frozen BK822.out 1) | ((with_reducible refine gate_callee (f := 24) rfl ?_); refine goesL_ (some 4) rfl rfl Tryd.func24 (by kernel_rfl) rfl #[.agg #[.slice A0_0 l0_0.length c0_0, .slice A0_1 l0_1.length c0_1]] rfl (by (try simp only [List.map_toArray, List.map_cons, List.map_nil]); first | done | rfl | (simp only [List.length_drop, List.length_take]; rfl)) ?_; (with_reducible refine (spec_MachOk.calls k _ _ l0_0 _ _ l0_1 false _ ?side1 ?side2 ?side3 ?side4 A2.out).mono ?_); (case side1 => repeat (first | exact (Kd.C_below HR0_0.out HB.out) | (with_reducible refine Kd.C_alloc ?_ _) | (with_reducible refine Kd.C_drewN ?_ _) | (with_reducible refine Kd.C_drew ?_))); (case side2 => exact HC0_0.out); (case side3 => repeat (first | exact (Kd.C_below HR0_1.out HB.out) | (with_reducible refine Kd.C_alloc ?_ _) | (with_reducible refine Kd.C_drewN ?_ _) | (with_reducible refine Kd.C_drew ?_))); (case side4 => exact HC0_1.out); rintro e w12 ⟨rfl, hb⟩; refine ⟨_, rfl, ?_⟩; have n0_ := Aside0.mk (blk_below (g := gb822) (o := .cells #[.slice A0_0 l0_0.length c0_0, .slice A0_1 l0_1.length c0_1] 56 (0, 0)) (by (with_reducible repeat (first | refine blk_drewN ?_ _ | refine blk_drew ?_ | refine blk_alloc ?_ _)); exact BK822.out) hb); have n1_ := Aside0.mk (below_step (by repeat (first | (with_reducible first | exact HB.out | apply below_alloc | apply pw_below_drewN | apply below_drew1 | refine below_set ?_ GE822.out) | exact HB.out)) hb); clear BK822; clear HB; have BK822 := n0_; have HB := n1_; clear n0_ n1_; (try clear hb); (try clear hb2); (try clear hk); (try clear hi)))
  go_ret
  exact ⟨by first | rfl | (simp only [i64_w, i32_w] <;> rfl) | (simp [errW_none, errW_some] <;> rfl) | (simp [*, errW_none, errW_some] <;> rfl), by repeat (first | (with_reducible first | exact HB.out | apply below_alloc | apply pw_below_drewN | apply below_drew1 | refine below_set ?_ GE822.out) | exact HB.out)⟩

end Go.Proofs.YtfhcnnkeokjfpaaDoor.PM1
