/- What functions of the program compute, each as a Lean function, and that the run comes to just that. Conditions: none. (Laid by this session's own program.) -/
import Derived.Test.YtfhcnnkeokjfpaaDoorTM1
import Derived.Test.YtfhcnnkeokjfpaaDoorT2M1
import Derived.Test.YtfhcnnkeokjfpaaDoorPM1x0
import Derived.Test.YtfhcnnkeokjfpaaDoorPM1x2
import Derived.Test.YtfhcnnkeokjfpaaDoorPM1x3
import Derived.Test.YtfhcnnkeokjfpaaDoorPM1x6
import Derived.Test.YtfhcnnkeokjfpaaDoorQuietM1
namespace Go.Proofs.YtfhcnnkeokjfpaaDoor.PM1
open Go.RowKit Go.Proofs.YtfhcnnkeokjfpaaDoorW.PrintWords Go.Proofs.YtfhcnnkeokjfpaaDoorW.PrintLast Go.Proofs.YtfhcnnkeokjfpaaDoorW.PrintMore Go.Proofs.YtfhcnnkeokjfpaaDoor.T
attribute [local go_sem] max2_int min2_int max_two min_two max_three min_three max_four min_four   -- for this text's walks alone
set_option linter.unusedVariables false
set_option linter.unusedSimpArgs false

/-! ### laws_FnExactQuiet: function 7 -/
def laws_FnExactQuiet.f (k : Nat) (l0_0 : List Int) (l0_1 : List (S25)) : Option (Bool) := (laws_szMach.f k l0_0 l0_1 1048576).bind fun t826 => (if t826 < 0 then (some true) else ((laws_toMach.f k l0_0 l0_1).bind fun bt827 => ((spec_Quiet.f k bt827.1 bt827.2).bind fun t833 => ((laws_toMach.f k l0_0 l0_1).bind fun bt834 => ((impl_Quiet.f bt834.1 bt834.2).bind fun t841 => (if (t841 != t833) = true then (some false) else ((laws_toMach.f k l0_0 l0_1).bind fun bt842 => ((laws_eqMach.f k bt834.1 bt834.2 bt842.1 bt842.2).bind fun t848 => (if t848 = true then (some true) else (some false))))))))))
theorem laws_FnExactQuiet.mono : ∀ a0 a1 k, LeO (laws_FnExactQuiet.f k a0 a1) (laws_FnExactQuiet.f (k + 1) a0 a1) := by
  intro a0 a1 k
  unfold laws_FnExactQuiet.f
  repeat' first
    | (with_reducible first | exact laws_eqMach.mono .. | exact laws_szMach.mono .. | exact laws_toMach.mono .. | exact spec_Quiet.mono .. | exact LeO.refl _ | exact LeO.none _ | refine LeO.ite ?_ ?_ | refine LeO.bind ?_ (fun _ => ?_))
    | exact LeO.none _ | refine LeO.ite ?_ ?_ | refine LeO.bind ?_ (fun _ => ?_)
set_option maxHeartbeats 2000000 in
set_option maxRecDepth 100000 in
theorem laws_FnExactQuiet.calls (k : Nat) (A0_0 : Option Addr) (c0_0 : Nat) (l0_0 : List Int) (A0_1 : Option Addr) (c0_1 : Nat) (l0_1 : List (S25)) (r : Bool) (w : World) (hr0_0 : Kd.C (Kd.int .u32) w A0_0 l0_0.length l0_0) (hc0_0 : l0_0.length ≤ c0_0) (hr0_1 : Kd.C k25 w A0_1 l0_1.length l0_1) (hc0_1 : l0_1.length ≤ c0_1) (h : laws_FnExactQuiet.f k l0_0 l0_1 = some r) (hT : GT w) :
    Calls Tryd.prog 7 #[.agg #[.slice A0_0 l0_0.length c0_0, .slice A0_1 l0_1.length c0_1]] w fun e w' => e = .returned (.bool r) ∧ Below w.heap.size w w' := by
  have hu50 := Tryd.underlying50
  have hu56 := Tryd.underlying56
  have HR0_0 := Aside0.mk hr0_0
  have HC0_0 := Aside0.mk hc0_0
  clear hr0_0 hc0_0
  have HR0_1 := Aside0.mk hr0_1
  have HC0_1 := Aside0.mk hc0_1
  clear hr0_1 hc0_1
  have HB := Aside0.mk (Below.refl w.heap.size w)
  unfold laws_FnExactQuiet.f at h
  have H := h
  clear h
  replace H := bn H
  obtain ⟨t826, A2, H⟩ := H
  try dsimp only at H
  have HU3 := Aside0.mk H
  clear H
  go_enter Tryd.func7, Tryd.ntmps7
  go_upto_if 11 with (first | ((with_reducible refine gd 1 ?_); refine bx 1 50 #[.slice A0_0 l0_0.length c0_0, .slice A0_1 l0_1.length c0_1] ?_; clear HB; intro gb825 w4 hg BK825 hb GE825 HB; clear hb hg; obtain ⟨z5_0, z5_1⟩ := ca2 BK825; obtain ⟨f5_0, f5_1⟩ := fa2 BK825) | ((with_reducible refine gf 23 ?_); refine gc Tryd.func23 (some 9) (laws_szMach.calls _ A0_0 c0_0 _ A0_1 c0_1 _ _ _ _ (cb HR0_0) HC0_0.out (cb HR0_1) HC0_1.out A2.out) ?_; rintro e w6 ⟨rfl, hb⟩; refine ⟨_, rfl, ?_⟩; replace BK825 := b_ BK825 hb; replace HB := hs hb; try clear hb))
  (try refine ap ?_)
  have H := HU3.out
  clear HU3
  replace H := ilt H
  rcases H with ⟨c7b0, H⟩ | ⟨c7b0, H⟩
  · (first | rw [c7b0] | (simp only [i64_w, i32_w]; rw [c7b0]) | (simp only [c7b2, Bool.not_true, Bool.not_false]) | (simp only [c7b1, Bool.not_true, Bool.not_false]) | skip)
    obtain rfl := Option.some.inj H
    go_wp2
    go_ret
    exact ⟨rt, bw⟩
  · (first | rw [c7b0] | (simp only [i64_w, i32_w]; rw [c7b0]) | (simp only [c7b2, Bool.not_true, Bool.not_false]) | (simp only [c7b1, Bool.not_true, Bool.not_false]) | skip)
    replace H := bn H
    obtain ⟨⟨t827, t830⟩, A8, H⟩ := H
    try dsimp only at H
    replace H := bn H
    obtain ⟨t833, A9, H⟩ := H
    try dsimp only at H
    replace H := bn H
    obtain ⟨⟨t834, t837⟩, A10, H⟩ := H
    try dsimp only at H
    replace H := bn H
    obtain ⟨t841, A11, H⟩ := H
    try dsimp only at H
    have HU12 := Aside0.mk H
    clear H
    obtain ⟨z13_0, z13_1⟩ := ca2 BK825
    obtain ⟨f13_0, f13_1⟩ := fa2 BK825
    go_upto_if 21 with (first | ((with_reducible refine gf 25 ?_); refine gc Tryd.func25 (some 13) (laws_toMach.calls _ A0_0 c0_0 _ A0_1 c0_1 _ _ _ _ (cb HR0_0) HC0_0.out (cb HR0_1) HC0_1.out A8.out) ?_; rintro e w14 ⟨v828, v831, rfl, ho0, ho1, hb⟩; refine ⟨_, rfl, ?_⟩; have HO829 := Aside0.mk (Kd.R_lower ho0 (below_size bw)); have HO832 := Aside0.mk (Kd.S_lower ho1 (below_size bw)); replace BK825 := b_ BK825 hb; replace HB := hs hb; try clear hb; (try clear ho0); (try clear ho1); obtain ⟨Ao15, co15, eo15⟩ := Kd.R_slice HO829.out; subst eo15; obtain ⟨Ao16, co16, eo16⟩ := Kd.S_slice HO832.out; subst eo16) | ((with_reducible refine gf 28 ?_); refine gl 28 Tryd.func28 (some 14) #[.agg #[.slice Ao15 t827.length co15, .slice Ao16 t830.length co16]] ?_; (with_reducible refine (spec_Quiet.calls _ _ _ _ _ _ _ _ _ ?side1 ?side2 ?side3 ?side4 A9.out).mono ?_); (case side1 => repeat (first | exact (Kd.R_reads' HO829.out).2.2 | (with_reducible refine Kd.C_alloc ?_ _) | (with_reducible refine Kd.C_drewN ?_ _) | (with_reducible refine Kd.C_drew ?_))); (case side2 => exact (Kd.R_reads' HO829.out).2.1); (case side3 => repeat (first | exact (Kd.S_reads' HO832.out).2.2 | (with_reducible refine Kd.C_alloc ?_ _) | (with_reducible refine Kd.C_drewN ?_ _) | (with_reducible refine Kd.C_drew ?_))); (case side4 => exact (Kd.S_reads' HO832.out).2.1); rintro e w17 ⟨rfl, hb⟩; refine ⟨_, rfl, ?_⟩; replace HO829 := Aside0.mk (Kd.R_below (ro HO829) hb); replace HO832 := Aside0.mk (Kd.S_below (by (with_reducible repeat (first | apply Kd.S_alloc | apply Kd.S_drewN | apply Kd.S_drew)); exact HO832.out) hb); replace BK825 := b_ BK825 hb; replace HB := hs hb; try clear hb; obtain ⟨z18_0, z18_1⟩ := ca2 BK825; obtain ⟨f18_0, f18_1⟩ := fa2 BK825) | ((with_reducible refine gf 25 ?_); refine gc Tryd.func25 (some 16) (laws_toMach.calls _ A0_0 c0_0 _ A0_1 c0_1 _ _ _ _ (cb HR0_0) HC0_0.out (cb HR0_1) HC0_1.out A10.out) ?_; rintro e w19 ⟨v835, v838, rfl, ho0, ho1, hb⟩; refine ⟨_, rfl, ?_⟩; have HO836 := Aside0.mk (Kd.R_lower (Kd.R_new' ho0 (Kd.R_lt (ro HO829))) (below_size bw)); replace HO829 := Aside0.mk (Kd.R_elder' (ro HO829) (Kd.R_base ho0) hb); have HO839 := Aside0.mk (Kd.S_lower (Kd.S_new' ho1 (Kd.S_lt (by (with_reducible repeat (first | apply Kd.S_alloc | apply Kd.S_drewN | apply Kd.S_drew)); exact HO832.out))) (below_size bw)); replace HO832 := Aside0.mk (Kd.S_elder' (by (with_reducible repeat (first | apply Kd.S_alloc | apply Kd.S_drewN | apply Kd.S_drew)); exact HO832.out) (Kd.S_base ho1) hb); replace BK825 := b_ BK825 hb; replace HB := hs hb; try clear hb; (try clear ho0); (try clear ho1)) | ((with_reducible refine gd 5 ?_); refine bx 5 56 #[.slice none 0 0, .slice none 0 0] ?_; clear HB; intro gb840 w20 hg BK840 hb GE840 HB; replace HO829 := Aside0.mk (Kd.R_below (ro HO829) hb); replace HO832 := Aside0.mk (Kd.S_below (by (with_reducible repeat (first | apply Kd.S_alloc | apply Kd.S_drewN | apply Kd.S_drew)); exact HO832.out) hb); replace HO836 := Aside0.mk (Kd.R_below (ro HO836) hb); replace HO839 := Aside0.mk (Kd.S_below (by (with_reducible repeat (first | apply Kd.S_alloc | apply Kd.S_drewN | apply Kd.S_drew)); exact HO839.out) hb); have NB825_840 := nl BK825 hg; have NB840_825 := ng BK825 hg; replace BK825 := b_ BK825 hb; clear hb hg; obtain ⟨Ao21, co21, eo21⟩ := Kd.R_slice HO836.out; subst eo21; have hnb22 := NB840_825.out; have hnc22 := NB825_840.out; obtain ⟨z23_0, z23_1⟩ := ca2 BK840; obtain ⟨f23_0, f23_1⟩ := fa2 BK840; obtain ⟨Ao24, co24, eo24⟩ := Kd.S_slice HO839.out; subst eo24) | ((with_reducible refine gf 29 ?_); refine gl 29 Tryd.func29 (some 18) #[.agg #[.slice Ao21 t834.length co21, .slice Ao24 t837.length co24]] ?_; (with_reducible refine (impl_Quiet.calls _ _ _ _ _ _ _ _ ?side1 ?side2 ?side3 ?side4 A11.out (hT.below bw)).mono ?_); (case side1 => refine (Kd.R_reads' (e := 23) (base := w.heap.size) (ok := fun k_ => (True ∧ some k_ ≠ (.slice Ao15 t827.length co15 : Value).ownBlock)) (n := t834.length) (c := co21) ?_).2.2; exact (rx HO836 BK840)); (case side2 => exact (Kd.R_reads' HO836.out).2.1); (case side3 => refine (Kd.S_reads' (e := 28) (base := w.heap.size) (ok := fun k_ => (True ∧ some k_ ≠ (.slice Ao16 t830.length co16 : Value).ownBlock)) (n := t837.length) (c := co24) ?_).2.2; exact (by (with_reducible repeat (first | apply Kd.S_alloc | apply Kd.S_drewN | apply Kd.S_drew)); exact (Kd.S_mono (Kd.S_far (p := ⟨gb840, 1, none⟩) (Kd.S_far (p := ⟨gb840, 0, none⟩) (Kd.S_types HO839.out BK840.out (by decide)) (fun _ hk => hk.2) (.slice Ao21 t834.length co21)) (fun _ hk => hk.2) (.slice Ao24 t837.length co24)) (fun _ h_ => h_.1)))); (case side4 => exact (Kd.S_reads' HO839.out).2.1); rintro e w25 ⟨rfl, hb⟩; refine ⟨_, rfl, ?_⟩; replace HO829 := Aside0.mk (Kd.R_below (rx HO829 BK840) hb); replace HO832 := Aside0.mk (Kd.S_below (by (with_reducible repeat (first | apply Kd.S_alloc | apply Kd.S_drewN | apply Kd.S_drew)); exact (Kd.S_mono (Kd.S_far (p := ⟨gb840, 1, none⟩) (Kd.S_far (p := ⟨gb840, 0, none⟩) (Kd.S_types HO832.out BK840.out (by decide)) (fun _ hk => hk.2) (.slice Ao21 t834.length co21)) (fun _ hk => hk.2) (.slice Ao24 t837.length co24)) (fun _ h_ => h_.1))) hb); replace HO836 := Aside0.mk (Kd.R_below (rx HO836 BK840) hb); replace HO839 := Aside0.mk (Kd.S_below (by (with_reducible repeat (first | apply Kd.S_alloc | apply Kd.S_drewN | apply Kd.S_drew)); exact (Kd.S_mono (Kd.S_far (p := ⟨gb840, 1, none⟩) (Kd.S_far (p := ⟨gb840, 0, none⟩) (Kd.S_types HO839.out BK840.out (by decide)) (fun _ hk => hk.2) (.slice Ao21 t834.length co21)) (fun _ hk => hk.2) (.slice Ao24 t837.length co24)) (fun _ h_ => h_.1))) hb); replace BK825 := b_ BK825 hb; replace BK840 := bq BK840 #[.slice Ao21 t834.length co21, .slice Ao24 t837.length co24] hb; replace HB := hs hb; try clear hb))
    (try refine ap ?_)
    have H := HU12.out
    clear HU12
    by_cases c26 : (t841 != t833) = true
    · rw [if_pos c26] at H
      have c26b0 : (t841 != t833) = true := c26
      (try (have c26b1 : decide (t841 = t833) = false := by simpa using c26))
      (try (have c26b2 : (t841 == t833) = false := by simpa using c26))
      (try (have c26b3 : ¬ (t841 = t833) := by simpa using c26))
      clear c26
      (first | rw [c26b0] | (simp only [i64_w, i32_w]; rw [c26b0]) | (simp only [c26b2, Bool.not_true, Bool.not_false]) | (simp only [c26b1, Bool.not_true, Bool.not_false]) | skip)
      obtain rfl := Option.some.inj H
      go_wp2
      go_ret
      exact ⟨rt, bw⟩
    · rw [if_neg c26] at H
      have c26b0 : (t841 != t833) = false := by simpa using c26
      (try (have c26b1 : decide (t841 = t833) = true := by simpa using c26))
      (try (have c26b2 : (t841 == t833) = true := by simpa using c26))
      clear c26
      (first | rw [c26b0] | (simp only [i64_w, i32_w]; rw [c26b0]) | (simp only [c26b2, Bool.not_true, Bool.not_false]) | (simp only [c26b1, Bool.not_true, Bool.not_false]) | skip)
      replace H := bn H
      obtain ⟨⟨t842, t845⟩, A27, H⟩ := H
      try dsimp only at H
      replace H := bn H
      obtain ⟨t848, A28, H⟩ := H
      try dsimp only at H
      have HU29 := Aside0.mk H
      clear H
      try go_wp2
      replace HO829 := Aside0.mk (Kd.R_drew HO829.out)
      replace HO832 := Aside0.mk (Kd.S_drew HO832.out)
      replace HO836 := Aside0.mk (Kd.R_drew HO836.out)
      replace HO839 := Aside0.mk (Kd.S_drew HO839.out)
      replace BK825 := bd BK825
      replace BK840 := bd BK840
      replace HB := hd HB
      refine st0 5 (fun w' => CA w' gb840 0 [.slice Ao21 t834.length co21, .slice Ao24 t837.length co24] ∧ CA w' gb825 0 [.slice A0_0 l0_0.length c0_0, .slice A0_1 l0_1.length c0_1]) [] ⟨cx BK840, cx BK825⟩ ?_; intro hHeld
      generalize w25.drew = w30 at HO829 HO832 HO836 HO839 BK825 BK840 HB hHeld ⊢
      refine tk 0 22 (bl 5 1) ?_
      refine tk 1 23 (bl 5 3) ?_
      refine on_ 2 (some 24) (bl 5 7) (fun K hK => ?_)
      refine gq Tryd.func25 (laws_toMach.calls _ A0_0 c0_0 _ A0_1 c0_1 _ _ _ _ (cb HR0_0) HC0_0.out (cb HR0_1) HC0_1.out A27.out) ?_
      rintro e w31 ⟨v843, v846, rfl, ho0, ho1, hb⟩
      refine ⟨_, rfl, ?_⟩
      have HO844 := Aside0.mk (Kd.R_lower (Kd.R_new' (Kd.R_new' ho0 (Kd.R_lt (ro HO829))) (Kd.R_lt (ro HO836))) (below_size bw))
      replace HO829 := Aside0.mk (Kd.R_elder' (ro HO829) (Kd.R_base ho0) hb)
      replace HO836 := Aside0.mk (Kd.R_elder' (ro HO836) (Kd.R_base ho0) hb)
      have HO847 := Aside0.mk (Kd.S_lower (Kd.S_new' (Kd.S_new' ho1 (Kd.S_lt (by (with_reducible repeat (first | apply Kd.S_alloc | apply Kd.S_drewN | apply Kd.S_drew)); exact HO832.out))) (Kd.S_lt (by (with_reducible repeat (first | apply Kd.S_alloc | apply Kd.S_drewN | apply Kd.S_drew)); exact HO839.out))) (below_size bw))
      replace HO832 := Aside0.mk (Kd.S_elder' (by (with_reducible repeat (first | apply Kd.S_alloc | apply Kd.S_drewN | apply Kd.S_drew)); exact HO832.out) (Kd.S_base ho1) hb)
      replace HO839 := Aside0.mk (Kd.S_elder' (by (with_reducible repeat (first | apply Kd.S_alloc | apply Kd.S_drewN | apply Kd.S_drew)); exact HO839.out) (Kd.S_base ho1) hb)
      replace BK825 := b_ BK825 hb
      replace BK840 := b_ BK840 hb
      replace HB := hs hb
      (try clear hb)
      (try clear hb2)
      (try clear hk)
      (try clear hi)
      (try clear ho0)
      (try clear ho1)
      obtain ⟨Ao32, co32, eo32⟩ := Kd.R_slice HO844.out
      (first | subst eo32 | (injection eo32 with f1_ f2_ f3_; have f4_ := f1_.symm; have f5_ := f3_.symm; clear f1_ f2_ f3_; subst f4_; subst f5_))
      obtain ⟨Ao33, co33, eo33⟩ := Kd.S_slice HO847.out
      (first | subst eo33 | (injection eo33 with f1_ f2_ f3_; have f4_ := f1_.symm; have f5_ := f3_.symm; clear f1_ f2_ f3_; subst f4_; subst f5_))
      refine hK.out _ _ ⟨cx BK840, cx BK825⟩ (fun hHeld => ?_)
      clear hK K
      refine nm ?_
      refine on_ 3 (some 25) (bl 5 15) (fun K hK => ?_)
      refine gg Tryd.func27 #[.agg #[.slice Ao21 t834.length co21, .slice Ao24 t837.length co24], .agg #[.slice Ao32 t842.length co32, .slice Ao33 t845.length co33]] ?_
      with_reducible refine (laws_eqMach.calls _ _ _ _ _ _ _ _ _ _ _ _ _ _ _ ?side1 ?side2 ?side3 ?side4 ?side5 ?side6 ?side7 ?side8 A28.out).mono ?_
      (case side1 => repeat (first | exact (Kd.R_reads' HO836.out).2.2 | (with_reducible refine Kd.C_alloc ?_ _) | (with_reducible refine Kd.C_drewN ?_ _) | (with_reducible refine Kd.C_drew ?_)))
      (case side2 => exact (Kd.R_reads' HO836.out).2.1)
      (case side3 => repeat (first | exact (Kd.S_reads' HO839.out).2.2 | (with_reducible refine Kd.C_alloc ?_ _) | (with_reducible refine Kd.C_drewN ?_ _) | (with_reducible refine Kd.C_drew ?_)))
      (case side4 => exact (Kd.S_reads' HO839.out).2.1)
      (case side5 => repeat (first | exact (Kd.R_reads' HO844.out).2.2 | (with_reducible refine Kd.C_alloc ?_ _) | (with_reducible refine Kd.C_drewN ?_ _) | (with_reducible refine Kd.C_drew ?_)))
      (case side6 => exact (Kd.R_reads' HO844.out).2.1)
      (case side7 => repeat (first | exact (Kd.S_reads' HO847.out).2.2 | (with_reducible refine Kd.C_alloc ?_ _) | (with_reducible refine Kd.C_drewN ?_ _) | (with_reducible refine Kd.C_drew ?_)))
      (case side8 => exact (Kd.S_reads' HO847.out).2.1)
      rintro e w34 ⟨rfl, hb⟩
      refine ⟨_, rfl, ?_⟩
      replace HO829 := Aside0.mk (Kd.R_below (ro HO829) hb)
      replace HO832 := Aside0.mk (Kd.S_below (by (with_reducible repeat (first | apply Kd.S_alloc | apply Kd.S_drewN | apply Kd.S_drew)); exact HO832.out) hb)
      replace HO836 := Aside0.mk (Kd.R_below (ro HO836) hb)
      replace HO839 := Aside0.mk (Kd.S_below (by (with_reducible repeat (first | apply Kd.S_alloc | apply Kd.S_drewN | apply Kd.S_drew)); exact HO839.out) hb)
      replace HO844 := Aside0.mk (Kd.R_below (ro HO844) hb)
      replace HO847 := Aside0.mk (Kd.S_below (by (with_reducible repeat (first | apply Kd.S_alloc | apply Kd.S_drewN | apply Kd.S_drew)); exact HO847.out) hb)
      replace BK825 := b_ BK825 hb
      replace BK840 := b_ BK840 hb
      replace HB := hs hb
      (try clear hb)
      (try clear hb2)
      (try clear hk)
      (try clear hi)
      refine hK.out _ _ ⟨cx BK840, cx BK825⟩ (fun hHeld => ?_)
      clear hK K
      refine nm ?_
      refine pu 4 26 (bl 5 31) ?_
      refine dn ?_ _
      go_upto_if 26 with (fail)
      have H := HU29.out
      clear HU29
      replace H := ib H
      rcases H with ⟨rfl, H⟩ | ⟨rfl, H⟩
      · (try simp only [Bool.not_true, Bool.not_false])
        obtain rfl := Option.some.inj H
        go_wp2
        go_ret
        exact ⟨rt, bw⟩
      · (try simp only [Bool.not_true, Bool.not_false])
        obtain rfl := Option.some.inj H
        go_wp2
        go_ret
        exact ⟨rt, bw⟩

/-- THE ONE PURE STATEMENT of laws_FnExactQuiet: yours. -/
def laws_FnExactQuiet.Pure : Prop := ∀ (l0_0 : List Int) (l0_1 : List (S25)), (l0_0.length ≤ 9223372036854775807 ∧ ∀ x_ ∈ l0_0, (Lit.int .u32 x_).wf = true) → (l0_1.length ≤ 9223372036854775807 ∧ ∀ x_ ∈ l0_1, ((Lit.int .i64 x_.f0).wf = true ∧ (x_.f1.length ≤ 9223372036854775807 ∧ ∀ y_ ∈ x_.f1, (Lit.int .i64 y_).wf = true) ∧ (x_.f2.length ≤ 9223372036854775807 ∧ ∀ y_ ∈ x_.f2, (Lit.int .i64 y_).wf = true) ∧ (Lit.int .u32 x_.f3).wf = true ∧ (Lit.int .i64 x_.f4).wf = true ∧ (Lit.int .i64 x_.f5).wf = true ∧ (Lit.int .i64 x_.f6).wf = true ∧ (Lit.int .u32 x_.f7).wf = true)) → ∃ k, laws_FnExactQuiet.f k l0_0 l0_1 = some true

end Go.Proofs.YtfhcnnkeokjfpaaDoor.PM1
