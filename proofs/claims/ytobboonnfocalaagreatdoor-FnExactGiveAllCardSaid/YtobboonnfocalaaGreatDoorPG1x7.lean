/- What functions of the program compute, each as a Lean function, and that the run comes to just that. Conditions: none. -/
import Derived.Test.YtobboonnfocalaaGreatDoorTG1
import Derived.Test.YtobboonnfocalaaGreatDoorT2G1
import Derived.Test.YtobboonnfocalaaGreatDoorPG1x0
import Derived.Test.YtobboonnfocalaaGreatDoorPG1x3
import Derived.Test.YtobboonnfocalaaGreatDoorPG1x4
import Derived.Test.YtobboonnfocalaaGreatDoorGiveAllG1
import Derived.Test.YtobboonnfocalaaGreatDoorMarkMachG1
namespace Go.Proofs.YtobboonnfocalaaGreatDoor.PG1
open Go.RowKit Go.Proofs.YtobboonnfocalaaGreatDoorW.PrintWords Go.Proofs.YtobboonnfocalaaGreatDoorW.PrintLast Go.Proofs.YtobboonnfocalaaGreatDoorW.PrintMore Go.Proofs.YtobboonnfocalaaGreatDoor.T
attribute [local go_sem] max2_int min2_int max_two min_two max_three min_three max_four min_four   -- for this text's walks alone
set_option linter.unusedVariables false
set_option linter.unusedSimpArgs false

/-! ### laws_FnExactGiveAll: function 3 -/
mutual
def laws_FnExactGiveAll.j0 : Nat → Int → Bool → Bool → Bool → List Int → List (S71) → Int → List Int → List Int → List (S49) → Int → List Int → Option (Bool)
 | 0, _, _, _, _, _, _, _, _, _, _, _, _ => none
 | k + 1, x1, x7, x10, x44, x457000, x457001, x470000, x470001, x477000, x477001, x483000, x483001 => if x44 = true then (some false) else ((laws_toMach.f k x457000 x457001).bind fun bt484 => ((laws_eqMach.f k x477000 x477001 bt484.1 bt484.2).bind fun t490 => (if t490 = true then ((laws_markMach.f x477000 x477001 1).bind fun t491 => (if t491 < 0 then (laws_FnExactGiveAll.j1 k x1 x7 true x457000 x457001 x470000 x470001 x483000 x483001) else ((laws_eqReq.f k x483000 x483001 x470000 x470001).bind fun t492 => (if t492 = true then (laws_FnExactGiveAll.j1 k x1 x7 (x10 != x7) x457000 x457001 x470000 x470001 x483000 x483001) else (laws_FnExactGiveAll.j1 k x1 x7 true x457000 x457001 x470000 x470001 x483000 x483001))))) else (some false))))
def laws_FnExactGiveAll.j1 : Nat → Int → Bool → Bool → List Int → List (S71) → Int → List Int → Int → List Int → Option (Bool)
 | 0, _, _, _, _, _, _, _, _, _ => none
 | k + 1, x1, x7, x65, x457000, x457001, x470000, x470001, x483000, x483001 => if x65 = true then (some false) else ((laws_markReq.f k x483000 x483001 1).bind fun bt493 => ((laws_heldReq.f k x483000 bt493.2 1).bind fun t495 => (if t495 < 0 then (some false) else (if t495 = bt493.1 then ((laws_toMach.f k x457000 x457001).bind fun bt496 => ((impl_GiveAll.f k bt496.1 bt496.2 x1).bind fun bt502 => ((laws_eqReq.f k bt502.1 bt502.2.1 x470000 x470001).bind fun t508 => (if t508 = true then (laws_FnExactGiveAll.j2 k bt493.1 (bt502.2.2 != x7) x483000 bt493.2) else (laws_FnExactGiveAll.j2 k bt493.1 true x483000 bt493.2))))) else (some false)))))
def laws_FnExactGiveAll.j2 : Nat → Int → Bool → Int → List Int → Option (Bool)
 | 0, _, _, _, _ => none
 | k + 1, x12, x92, x483000, x483001 => if x92 = true then (some false) else ((laws_heldReq.f k x483000 x483001 1).bind fun t509 => (if t509 < 0 then (some false) else (if t509 = x12 then (some true) else (some false))))
end
def laws_FnExactGiveAll.f (k : Nat) (l0_0 : List Int) (l0_1 : List (S71)) (a1 : Int) : Option (Bool) := (laws_szMach.f k l0_0 l0_1 1048576).bind fun t457 => (if t457 < 0 then (some true) else ((laws_toMach.f k l0_0 l0_1).bind fun bt458 => ((spec_GiveAll.f k bt458.1 bt458.2 a1).bind fun bt464 => ((laws_toMach.f k l0_0 l0_1).bind fun bt470 => ((impl_GiveAll.f k bt470.1 bt470.2 a1).bind fun bt477 => ((laws_eqReq.f k bt477.1 bt477.2.1 bt464.1 bt464.2.1).bind fun t483 => (if t483 = true then (laws_FnExactGiveAll.j0 k a1 bt464.2.2 bt477.2.2 (bt477.2.2 != bt464.2.2) l0_0 l0_1 bt464.1 bt464.2.1 bt470.1 bt470.2 bt477.1 bt477.2.1) else (laws_FnExactGiveAll.j0 k a1 bt464.2.2 bt477.2.2 true l0_0 l0_1 bt464.1 bt464.2.1 bt470.1 bt470.2 bt477.1 bt477.2.1))))))))
theorem laws_FnExactGiveAll.mono_l : ∀ k, (∀ y0 y1 y2 y3 y4 y5 y6 y7 y8 y9 y10 y11, LeO (laws_FnExactGiveAll.j0 k y0 y1 y2 y3 y4 y5 y6 y7 y8 y9 y10 y11) (laws_FnExactGiveAll.j0 (k + 1) y0 y1 y2 y3 y4 y5 y6 y7 y8 y9 y10 y11)) ∧ (∀ y0 y1 y2 y3 y4 y5 y6 y7 y8, LeO (laws_FnExactGiveAll.j1 k y0 y1 y2 y3 y4 y5 y6 y7 y8) (laws_FnExactGiveAll.j1 (k + 1) y0 y1 y2 y3 y4 y5 y6 y7 y8)) ∧ (∀ y0 y1 y2 y3, LeO (laws_FnExactGiveAll.j2 k y0 y1 y2 y3) (laws_FnExactGiveAll.j2 (k + 1) y0 y1 y2 y3))
 | 0 => ⟨fun _ _ _ _ _ _ _ _ _ _ _ _ r h => by simp [laws_FnExactGiveAll.j0] at h, fun _ _ _ _ _ _ _ _ _ r h => by simp [laws_FnExactGiveAll.j1] at h, fun _ _ _ _ r h => by simp [laws_FnExactGiveAll.j2] at h⟩
 | k + 1 => by
  obtain ⟨ih0, ih1, ih2⟩ := laws_FnExactGiveAll.mono_l k
  refine ⟨?_, ?_, ?_⟩
  ·intro y0 y1 y2 y3 y4 y5 y6 y7 y8 y9 y10 y11
   unfold laws_FnExactGiveAll.j0
   repeat' first
    | (with_reducible first | exact ih0 .. | exact ih1 .. | exact ih2 .. | exact impl_GiveAll.mono .. | exact laws_eqMach.mono .. | exact laws_eqReq.mono .. | exact laws_heldReq.mono .. | exact laws_markReq.mono .. | exact laws_szMach.mono .. | exact laws_toMach.mono .. | exact spec_GiveAll.mono .. | exact LeO.refl _ | exact LeO.none _ | refine LeO.ite ?_ ?_ | refine LeO.bind ?_ (fun _ => ?_))
    | exact LeO.none _ | refine LeO.ite ?_ ?_ | refine LeO.bind ?_ (fun _ => ?_)
  ·intro y0 y1 y2 y3 y4 y5 y6 y7 y8
   unfold laws_FnExactGiveAll.j1
   repeat' first
    | (with_reducible first | exact ih0 .. | exact ih1 .. | exact ih2 .. | exact impl_GiveAll.mono .. | exact laws_eqMach.mono .. | exact laws_eqReq.mono .. | exact laws_heldReq.mono .. | exact laws_markReq.mono .. | exact laws_szMach.mono .. | exact laws_toMach.mono .. | exact spec_GiveAll.mono .. | exact LeO.refl _ | exact LeO.none _ | refine LeO.ite ?_ ?_ | refine LeO.bind ?_ (fun _ => ?_))
    | exact LeO.none _ | refine LeO.ite ?_ ?_ | refine LeO.bind ?_ (fun _ => ?_)
  ·intro y0 y1 y2 y3
   unfold laws_FnExactGiveAll.j2
   repeat' first
    | (with_reducible first | exact ih0 .. | exact ih1 .. | exact ih2 .. | exact impl_GiveAll.mono .. | exact laws_eqMach.mono .. | exact laws_eqReq.mono .. | exact laws_heldReq.mono .. | exact laws_markReq.mono .. | exact laws_szMach.mono .. | exact laws_toMach.mono .. | exact spec_GiveAll.mono .. | exact LeO.refl _ | exact LeO.none _ | refine LeO.ite ?_ ?_ | refine LeO.bind ?_ (fun _ => ?_))
    | exact LeO.none _ | refine LeO.ite ?_ ?_ | refine LeO.bind ?_ (fun _ => ?_)
theorem laws_FnExactGiveAll.mono : ∀ a0 a1 a2 k, LeO (laws_FnExactGiveAll.f k a0 a1 a2) (laws_FnExactGiveAll.f (k + 1) a0 a1 a2) := by
 intro a0 a1 a2 k
 obtain ⟨ih0, ih1, ih2⟩ := laws_FnExactGiveAll.mono_l k
 unfold laws_FnExactGiveAll.f
 repeat' first
  | (with_reducible first | exact ih0 .. | exact ih1 .. | exact ih2 .. | exact impl_GiveAll.mono .. | exact laws_eqMach.mono .. | exact laws_eqReq.mono .. | exact laws_heldReq.mono .. | exact laws_markReq.mono .. | exact laws_szMach.mono .. | exact laws_toMach.mono .. | exact spec_GiveAll.mono .. | exact LeO.refl _ | exact LeO.none _ | refine LeO.ite ?_ ?_ | refine LeO.bind ?_ (fun _ => ?_))
  | exact LeO.none _ | refine LeO.ite ?_ ?_ | refine LeO.bind ?_ (fun _ => ?_)
set_option maxHeartbeats 8000000 in
set_option maxRecDepth 100000 in
theorem laws_FnExactGiveAll.calls (k : Nat) (A0_0 : Option Addr) (c0_0 : Nat) (l0_0 : List Int) (A0_1 : Option Addr) (c0_1 : Nat) (l0_1 : List (S71)) (a1 : Int) (r : Bool) (w : World) (hr0_0 : Kd.C (Kd.int .u32) w A0_0 l0_0.length l0_0) (hc0_0 : l0_0.length ≤ c0_0) (hr0_1 : Kd.C k71 w A0_1 l0_1.length l0_1) (hc0_1 : l0_1.length ≤ c0_1) (h : laws_FnExactGiveAll.f k l0_0 l0_1 a1 = some r) (hT : GT w) :
  Calls Tryz.prog 3 #[.agg #[.slice A0_0 l0_0.length c0_0, .slice A0_1 l0_1.length c0_1], .int .i64 a1] w fun e w' => e = .returned (.bool r) ∧ Below w.heap.size w w' := by
 have hu27 := Tryz.underlying27
 have hu31 := Tryz.underlying31
 have hu37 := Tryz.underlying37
 have HR0_0 := Aside0.mk hr0_0
 have HC0_0 := Aside0.mk hc0_0
 clear hr0_0 hc0_0
 have HR0_1 := Aside0.mk hr0_1
 have HC0_1 := Aside0.mk hc0_1
 clear hr0_1 hc0_1
 have HB := Aside0.mk (Below.refl w.heap.size w)
 unfold laws_FnExactGiveAll.f at h
 have H := h
 clear h
 replace H := bn H
 obtain ⟨t457, A3, H⟩ := H
 try dsimp only at H
 have HU4 := Aside0.mk H
 clear H
 go_enter Tryz.func3, Tryz.ntmps3
 go_upto_if 20 with (first | ((with_reducible refine gd 2 ?_); refine bx 2 27 #[.slice A0_0 l0_0.length c0_0, .slice A0_1 l0_1.length c0_1] ?_; clear HB; intro gb456 w5 hg BK456 hb GE456 HB; clear hb hg; obtain ⟨z6_0, z6_1⟩ := ca2 BK456; obtain ⟨f6_0, f6_1⟩ := fa2 BK456) | ((with_reducible refine gf 4 ?_); refine gc Tryz.func4 (some 18) (laws_szMach.calls _ A0_0 c0_0 _ A0_1 c0_1 _ _ _ _ (cb HR0_0) HC0_0.out (cb HR0_1) HC0_1.out A3.out) ?_; rintro e w7 ⟨rfl, hb⟩; refine ⟨_, rfl, ?_⟩; replace BK456 := b_ BK456 hb; replace HB := hs hb; try clear hb))
 (try refine ap ?_)
 have H := HU4.out
 clear HU4
 replace H := ilt H
 rcases H with ⟨c8b0, H⟩ | ⟨c8b0, H⟩
 ·(first | rw [c8b0] | (simp only [i64_w, i32_w]; rw [c8b0]) | (simp only [c8b2, Bool.not_true, Bool.not_false]) | (simp only [c8b1, Bool.not_true, Bool.not_false]) | skip)
  obtain rfl := Option.some.inj H
  go_wp2
  go_ret
  exact ⟨rt, bw⟩
 ·(first | rw [c8b0] | (simp only [i64_w, i32_w]; rw [c8b0]) | (simp only [c8b2, Bool.not_true, Bool.not_false]) | (simp only [c8b1, Bool.not_true, Bool.not_false]) | skip)
  replace H := bn H
  obtain ⟨⟨t458, t461⟩, A9, H⟩ := H
  try dsimp only at H
  replace H := bn H
  obtain ⟨⟨t464, t465, t468⟩, A10, H⟩ := H
  try dsimp only at H
  replace H := bn H
  obtain ⟨⟨t470, t473⟩, A11, H⟩ := H
  try dsimp only at H
  replace H := bn H
  obtain ⟨⟨t477, t478, t481⟩, A12, H⟩ := H
  try dsimp only at H
  have HC13 := Aside0.mk H
  clear H
  obtain ⟨z14_0, z14_1⟩ := ca2 BK456
  obtain ⟨f14_0, f14_1⟩ := fa2 BK456
  go_upto_region 8 with (first | ((with_reducible refine gf 6 ?_); refine gc Tryz.func6 (some 23) (laws_toMach.calls _ A0_0 c0_0 _ A0_1 c0_1 _ _ _ _ (cb HR0_0) HC0_0.out (cb HR0_1) HC0_1.out A9.out) ?_; rintro e w15 ⟨v459, v462, rfl, ho0, ho1, hb⟩; refine ⟨_, rfl, ?_⟩; have HO460 := Aside0.mk (Kd.R_lower ho0 (below_size bw)); have HO463 := Aside0.mk (Kd.S_lower ho1 (below_size bw)); replace BK456 := b_ BK456 hb; replace HB := hs hb; try clear hb; (try clear ho0); (try clear ho1); obtain ⟨Ao16, co16, eo16⟩ := Kd.R_slice HO460.out; subst eo16; obtain ⟨Ao17, co17, eo17⟩ := Kd.S_slice HO463.out; subst eo17) | ((with_reducible refine gf 5 ?_); refine gl 5 Tryz.func5 (some 25) #[.agg #[.slice Ao16 t458.length co16, .slice Ao17 t461.length co17], .int .i64 a1] ?_; (with_reducible refine (spec_GiveAll.calls _ _ _ _ _ _ _ _ _ _ _ _ ?side1 ?side2 ?side3 ?side4 A10.out).mono ?_); (case side1 => repeat (first | exact (Kd.R_reads' HO460.out).2.2 | (with_reducible refine Kd.C_alloc ?_ _) | (with_reducible refine Kd.C_drewN ?_ _) | (with_reducible refine Kd.C_drew ?_))); (case side2 => exact (Kd.R_reads' HO460.out).2.1); (case side3 => repeat (first | exact (Kd.S_reads' HO463.out).2.2 | (with_reducible refine Kd.C_alloc ?_ _) | (with_reducible refine Kd.C_drewN ?_ _) | (with_reducible refine Kd.C_drew ?_))); (case side4 => exact (Kd.S_reads' HO463.out).2.1); rintro e w18 ⟨v466, rfl, ho0, hb⟩; refine ⟨_, rfl, ?_⟩; replace HO460 := Aside0.mk (Kd.R_below (ro HO460) hb); replace HO463 := Aside0.mk (Kd.S_elder' (by (with_reducible repeat (first | apply Kd.S_alloc | apply Kd.S_drewN | apply Kd.S_drew)); exact HO463.out) (Kd.R_base ho0) hb); have HO467 := Aside0.mk (Kd.R_lower ho0 (below_size bw)); replace BK456 := b_ BK456 hb; replace HB := hs hb; try clear hb; (try clear ho0)) | ((with_reducible refine gd 6 ?_); refine bx 6 31 #[.int .i64 0, .slice none 0 0] ?_; clear HB; intro gb469 w19 hg BK469 hb GE469 HB; replace HO460 := Aside0.mk (Kd.R_below (ro HO460) hb); replace HO463 := Aside0.mk (Kd.S_below (by (with_reducible repeat (first | apply Kd.S_alloc | apply Kd.S_drewN | apply Kd.S_drew)); exact HO463.out) hb); replace HO467 := Aside0.mk (Kd.R_below (ro HO467) hb); have NB456_469 := nl BK456 hg; have NB469_456 := ng BK456 hg; replace BK456 := b_ BK456 hb; clear hb hg; have hnb20 := NB469_456.out; have hnc20 := NB456_469.out; obtain ⟨z21_0, z21_1⟩ := ca2 BK469; obtain ⟨f21_0, f21_1⟩ := fa2 BK469; obtain ⟨Ao22, co22, eo22⟩ := Kd.R_slice HO467.out; subst eo22; obtain ⟨z23_0, z23_1⟩ := ca2 BK456; obtain ⟨f23_0, f23_1⟩ := fa2 BK456) | ((with_reducible refine gf 6 ?_); refine gc Tryz.func6 (some 29) (laws_toMach.calls _ A0_0 c0_0 _ A0_1 c0_1 _ _ _ _ (Kd.C_below HR0_0.out bw) HC0_0.out (Kd.C_below HR0_1.out bw) HC0_1.out A11.out) ?_; rintro e w24 ⟨v471, v474, rfl, ho0, ho1, hb⟩; refine ⟨_, rfl, ?_⟩; have HO472 := Aside0.mk (Kd.R_lower (Kd.R_new' ho0 (Kd.R_lt (rx HO460 BK469))) (below_size bw)); replace HO460 := Aside0.mk (Kd.R_elder' (rx HO460 BK469) (Kd.R_base ho0) hb); have HO475 := Aside0.mk (Kd.S_lower (Kd.S_new' (Kd.S_new' ho1 (Kd.S_lt (by (with_reducible repeat (first | apply Kd.S_alloc | apply Kd.S_drewN | apply Kd.S_drew)); exact (Kd.S_mono (Kd.S_far (p := ⟨gb469, 1, none⟩) (Kd.S_far (p := ⟨gb469, 0, none⟩) (Kd.S_types HO463.out BK469.out (by decide)) (fun _ hk => hk.2) (.int .i64 t464)) (fun _ hk => hk.2) (.slice Ao22 t465.length co22)) (fun _ h_ => h_.1))))) (Kd.R_lt (rx HO467 BK469))) (below_size bw)); replace HO463 := Aside0.mk (Kd.S_elder' (by (with_reducible repeat (first | apply Kd.S_alloc | apply Kd.S_drewN | apply Kd.S_drew)); exact (Kd.S_mono (Kd.S_far (p := ⟨gb469, 1, none⟩) (Kd.S_far (p := ⟨gb469, 0, none⟩) (Kd.S_types HO463.out BK469.out (by decide)) (fun _ hk => hk.2) (.int .i64 t464)) (fun _ hk => hk.2) (.slice Ao22 t465.length co22)) (fun _ h_ => h_.1))) (Kd.S_base ho1) hb); replace HO467 := Aside0.mk (Kd.R_below (rx HO467 BK469) hb); replace BK456 := b_ BK456 hb; replace BK469 := bq BK469 #[.int .i64 t464, .slice Ao22 t465.length co22] hb; replace HB := hs hb; try clear hb; (try clear ho0); (try clear ho1)) | ((with_reducible refine gd 8 ?_); refine bx 8 37 #[.slice none 0 0, .slice none 0 0] ?_; clear HB; intro gb476 w25 hg BK476 hb GE476 HB; replace HO460 := Aside0.mk (Kd.R_below (ro HO460) hb); replace HO463 := Aside0.mk (Kd.S_below (by (with_reducible repeat (first | apply Kd.S_alloc | apply Kd.S_drewN | apply Kd.S_drew)); exact HO463.out) hb); replace HO467 := Aside0.mk (Kd.R_below (ro HO467) hb); replace HO472 := Aside0.mk (Kd.R_below (ro HO472) hb); replace HO475 := Aside0.mk (Kd.S_below (by (with_reducible repeat (first | apply Kd.S_alloc | apply Kd.S_drewN | apply Kd.S_drew)); exact HO475.out) hb); have NB456_476 := nl BK456 hg; have NB476_456 := ng BK456 hg; replace BK456 := b_ BK456 hb; have NB469_476 := nl BK469 hg; have NB476_469 := ng BK469 hg; replace BK469 := b_ BK469 hb; clear hb hg; obtain ⟨Ao26, co26, eo26⟩ := Kd.R_slice HO472.out; subst eo26; have hnb27 := NB476_456.out; have hnc27 := NB456_476.out; have hnb28 := NB476_469.out; have hnc28 := NB469_476.out; obtain ⟨z29_0, z29_1⟩ := ca2 BK476; obtain ⟨f29_0, f29_1⟩ := fa2 BK476; obtain ⟨Ao30, co30, eo30⟩ := Kd.S_slice HO475.out; subst eo30) | ((with_reducible refine gf 7 ?_); refine gl 7 Tryz.func7 (some 33) #[.agg #[.slice Ao26 t470.length co26, .slice Ao30 t473.length co30], .int .i64 a1] ?_; (with_reducible refine (impl_GiveAll.calls _ _ _ _ _ _ _ _ _ _ _ _ ?side1 ?side2 ?side3 ?side4 A12.out (hT.below bw)).mono ?_); (case side1 => refine (Kd.R_reads' (e := 47) (base := w.heap.size) (ok := fun k_ => (True ∧ some k_ ≠ (.slice Ao16 t458.length co16 : Value).ownBlock)) (n := t470.length) (c := co26) ?_).2.2; exact (rx HO472 BK476)); (case side2 => exact (Kd.R_reads' HO472.out).2.1); (case side3 => refine (Kd.S_reads' (e := 49) (base := w.heap.size) (ok := fun k_ => ((True ∧ some k_ ≠ (.slice Ao17 t461.length co17 : Value).ownBlock) ∧ some k_ ≠ (.slice Ao22 t465.length co22 : Value).ownBlock)) (n := t473.length) (c := co30) ?_).2.2; exact (by (with_reducible repeat (first | apply Kd.S_alloc | apply Kd.S_drewN | apply Kd.S_drew)); exact (Kd.S_mono (Kd.S_far (p := ⟨gb476, 1, none⟩) (Kd.S_far (p := ⟨gb476, 0, none⟩) (Kd.S_types HO475.out BK476.out (by decide)) (fun _ hk => hk.2) (.slice Ao26 t470.length co26)) (fun _ hk => hk.2) (.slice Ao30 t473.length co30)) (fun _ h_ => h_.1)))); (case side4 => exact (Kd.S_reads' HO475.out).2.1); rintro e w31 ⟨v479, rfl, ho0, hb⟩; refine ⟨_, rfl, ?_⟩; replace HO460 := Aside0.mk (Kd.R_below (rx HO460 BK476) hb); replace HO463 := Aside0.mk (Kd.S_elder' (by (with_reducible repeat (first | apply Kd.S_alloc | apply Kd.S_drewN | apply Kd.S_drew)); exact (Kd.S_mono (Kd.S_far (p := ⟨gb476, 1, none⟩) (Kd.S_far (p := ⟨gb476, 0, none⟩) (Kd.S_types HO463.out BK476.out (by decide)) (fun _ hk => hk.2) (.slice Ao26 t470.length co26)) (fun _ hk => hk.2) (.slice Ao30 t473.length co30)) (fun _ h_ => h_.1))) (Kd.R_base ho0) hb); replace HO472 := Aside0.mk (Kd.R_below (rx HO472 BK476) hb); replace HO475 := Aside0.mk (Kd.S_elder' (by (with_reducible repeat (first | apply Kd.S_alloc | apply Kd.S_drewN | apply Kd.S_drew)); exact (Kd.S_mono (Kd.S_far (p := ⟨gb476, 1, none⟩) (Kd.S_far (p := ⟨gb476, 0, none⟩) (Kd.S_types HO475.out BK476.out (by decide)) (fun _ hk => hk.2) (.slice Ao26 t470.length co26)) (fun _ hk => hk.2) (.slice Ao30 t473.length co30)) (fun _ h_ => h_.1))) (Kd.R_base ho0) hb); have HO480 := Aside0.mk (Kd.R_lower (Kd.R_new' ho0 (Kd.R_lt (rx HO467 BK476))) (below_size bw)); replace HO467 := Aside0.mk (Kd.R_elder' (rx HO467 BK476) (Kd.R_base ho0) hb); replace BK456 := b_ BK456 hb; replace BK469 := b_ BK469 hb; replace BK476 := bq BK476 #[.slice Ao26 t470.length co26, .slice Ao30 t473.length co30] hb; replace HB := hs hb; try clear hb; (try clear ho0)) | ((with_reducible refine gd 9 ?_); refine bx 9 31 #[.int .i64 0, .slice none 0 0] ?_; clear HB; intro gb482 w32 hg BK482 hb GE482 HB; replace HO460 := Aside0.mk (Kd.R_below (ro HO460) hb); replace HO463 := Aside0.mk (Kd.S_below (by (with_reducible repeat (first | apply Kd.S_alloc | apply Kd.S_drewN | apply Kd.S_drew)); exact HO463.out) hb); replace HO467 := Aside0.mk (Kd.R_below (ro HO467) hb); replace HO472 := Aside0.mk (Kd.R_below (ro HO472) hb); replace HO475 := Aside0.mk (Kd.S_below (by (with_reducible repeat (first | apply Kd.S_alloc | apply Kd.S_drewN | apply Kd.S_drew)); exact HO475.out) hb); replace HO480 := Aside0.mk (Kd.R_below (ro HO480) hb); have NB456_482 := nl BK456 hg; have NB482_456 := ng BK456 hg; replace BK456 := b_ BK456 hb; have NB469_482 := nl BK469 hg; have NB482_469 := ng BK469 hg; replace BK469 := b_ BK469 hb; have NB476_482 := nl BK476 hg; have NB482_476 := ng BK476 hg; replace BK476 := b_ BK476 hb; clear hb hg; have hnb33 := NB482_456.out; have hnc33 := NB456_482.out; have hnb34 := NB482_469.out; have hnc34 := NB469_482.out; have hnb35 := NB482_476.out; have hnc35 := NB476_482.out; obtain ⟨z36_0, z36_1⟩ := ca2 BK482; obtain ⟨f36_0, f36_1⟩ := fa2 BK482; obtain ⟨Ao37, co37, eo37⟩ := Kd.R_slice HO480.out; subst eo37))
  (try refine ap ?_)
  go_cut [44] (fun v44 wc => ∃ (kq : Nat) (x44_12 : Bool), v44 = .bool x44_12 ∧ Aside0 (laws_FnExactGiveAll.j0 kq a1 t468 t481 x44_12 l0_0 l0_1 t464 t465 t470 t473 t477 t478 = some r) ∧ Aside0 (kq ≤ k) ∧ Aside0 (Kd.R (Kd.int .i64) 3 wc w.heap.size (fun k_ => some k_ ≠ ((.slice Ao37 t478.length co37) : Value).ownBlock) (.slice Ao22 t465.length co22) t465) ∧ Aside0 (Kd.R (Kd.int .u32) 47 wc w.heap.size (fun _ => True) (.slice Ao26 t470.length co26) t470) ∧ Aside0 (Kd.S k49 49 wc w.heap.size (fun k_ => some k_ ≠ ((.slice Ao22 t465.length co22) : Value).ownBlock ∧ some k_ ≠ ((.slice Ao37 t478.length co37) : Value).ownBlock) (.slice Ao30 t473.length co30) t473) ∧ Aside0 (Kd.R (Kd.int .i64) 3 wc w.heap.size (fun k_ => some k_ ≠ ((.slice Ao22 t465.length co22) : Value).ownBlock) (.slice Ao37 t478.length co37) t478) ∧ Aside0 (wc.heap[gb456]? = some (.cells #[(.slice A0_0 l0_0.length c0_0), (.slice A0_1 l0_1.length c0_1)] 27 (0, 0))) ∧ Aside0 (wc.heap[gb469]? = some (.cells #[.int .i64 t464, (.slice Ao22 t465.length co22)] 31 (0, 0))) ∧ Aside0 (wc.heap[gb476]? = some (.cells #[(.slice Ao26 t470.length co26), (.slice Ao30 t473.length co30)] 37 (0, 0))) ∧ Aside0 (wc.heap[gb482]? = some (.cells #[.int .i64 t477, (.slice Ao37 t478.length co37)] 31 (0, 0))) ∧ Aside0 (Below w.heap.size w wc))
  case first => as_aux_lemma =>
   have H := HC13.out
   clear HC13
   replace H := bn H
   obtain ⟨t483, A38, H⟩ := H
   try dsimp only at H
   replace H := ib H
   rcases H with ⟨rfl, H⟩ | ⟨rfl, H⟩
   ·(try simp only [Bool.not_true, Bool.not_false])
    have H' := Aside0.mk H
    clear H
    have hnb40 := NB482_456.out
    have hnc40 := NB456_482.out
    have hnb41 := NB482_469.out
    have hnc41 := NB469_482.out
    have hnb42 := NB482_476.out
    have hnc42 := NB476_482.out
    obtain ⟨z43_0, z43_1⟩ := ca2 BK482
    obtain ⟨f43_0, f43_1⟩ := fa2 BK482
    have hnb44 := NB469_456.out
    have hnc44 := NB456_469.out
    have hnb45 := NB469_476.out
    have hnc45 := NB476_469.out
    obtain ⟨z46_0, z46_1⟩ := ca2 BK469
    obtain ⟨f46_0, f46_1⟩ := fa2 BK469
    go_wp2_with (first | ((with_reducible refine gf 8 ?_); refine gl 8 Tryz.func8 (some 38) #[.agg #[.int .i64 t477, .slice Ao37 t478.length co37], .agg #[.int .i64 t464, .slice Ao22 t465.length co22]] ?_; (with_reducible refine (laws_eqReq.calls _ _ _ _ _ _ _ _ _ _ _ ?side1 ?side2 ?side3 ?side4 A38.out).mono ?_); (case side1 => refine (Kd.R_reads' (e := 3) (base := w.heap.size) (ok := fun k_ => (True ∧ some k_ ≠ (.slice Ao22 t465.length co22 : Value).ownBlock)) (n := t478.length) (c := co37) ?_).2.2; exact (rx HO480 BK482)); (case side2 => exact (Kd.R_reads' HO480.out).2.1); (case side3 => refine (Kd.R_reads' (e := 3) (base := w.heap.size) (ok := fun k_ => (True ∧ some k_ ≠ (.slice Ao37 t478.length co37 : Value).ownBlock)) (n := t465.length) (c := co22) ?_).2.2; exact (rx HO467 BK482)); (case side4 => exact (Kd.R_reads' HO467.out).2.1); rintro e w47 ⟨rfl, hb⟩; refine ⟨_, rfl, ?_⟩; replace HO460 := Aside0.mk (Kd.R_below (rx HO460 BK482) hb); replace HO463 := Aside0.mk (Kd.S_below (by (with_reducible repeat (first | apply Kd.S_alloc | apply Kd.S_drewN | apply Kd.S_drew)); exact (Kd.S_mono (Kd.S_far (p := ⟨gb482, 1, none⟩) (Kd.S_far (p := ⟨gb482, 0, none⟩) (Kd.S_types HO463.out BK482.out (by decide)) (fun _ hk => hk.2) (.int .i64 t477)) (fun _ hk => hk.2) (.slice Ao37 t478.length co37)) (fun _ h_ => h_.1))) hb); replace HO467 := Aside0.mk (Kd.R_below (rx HO467 BK482) hb); replace HO472 := Aside0.mk (Kd.R_below (rx HO472 BK482) hb); replace HO475 := Aside0.mk (Kd.S_below (by (with_reducible repeat (first | apply Kd.S_alloc | apply Kd.S_drewN | apply Kd.S_drew)); exact (Kd.S_mono (Kd.S_far (p := ⟨gb482, 1, none⟩) (Kd.S_far (p := ⟨gb482, 0, none⟩) (Kd.S_types HO475.out BK482.out (by decide)) (fun _ hk => hk.2) (.int .i64 t477)) (fun _ hk => hk.2) (.slice Ao37 t478.length co37)) (fun _ h_ => h_.1))) hb); replace HO480 := Aside0.mk (Kd.R_below (rx HO480 BK482) hb); replace BK456 := b_ BK456 hb; replace BK469 := b_ BK469 hb; replace BK476 := b_ BK476 hb; replace BK482 := bq BK482 #[.int .i64 t477, .slice Ao37 t478.length co37] hb; replace HB := hs hb; try clear hb))
    go_meet
    case rel => exact ⟨_, ((t481 != t468)), ev, H', ⟨om⟩, ⟨by (with_reducible repeat (first | apply Kd.R_alloc | apply Kd.R_drewN | apply Kd.R_drew)); exact Kd.R_mono HO467.out (fun _ hk => hk.2)⟩, ⟨by (with_reducible repeat (first | apply Kd.R_alloc | apply Kd.R_drewN | apply Kd.R_drew)); exact Kd.R_mono HO472.out (fun _ hk => trivial)⟩, ⟨by (with_reducible repeat (first | apply Kd.S_alloc | apply Kd.S_drewN | apply Kd.S_drew)); exact Kd.S_mono HO475.out (fun _ hk => ⟨hk.1.2, hk.2⟩)⟩, ⟨by (with_reducible repeat (first | apply Kd.R_alloc | apply Kd.R_drewN | apply Kd.R_drew)); exact Kd.R_mono HO480.out (fun _ hk => hk.2)⟩, ⟨bk BK456⟩, ⟨bk BK469⟩, ⟨bk BK476⟩, ⟨bk BK482⟩, ⟨bw⟩⟩
   ·(try simp only [Bool.not_true, Bool.not_false])
    have H' := Aside0.mk H
    clear H
    have hnb48 := NB482_456.out
    have hnc48 := NB456_482.out
    have hnb49 := NB482_469.out
    have hnc49 := NB469_482.out
    have hnb50 := NB482_476.out
    have hnc50 := NB476_482.out
    obtain ⟨z51_0, z51_1⟩ := ca2 BK482
    obtain ⟨f51_0, f51_1⟩ := fa2 BK482
    have hnb52 := NB469_456.out
    have hnc52 := NB456_469.out
    have hnb53 := NB469_476.out
    have hnc53 := NB476_469.out
    obtain ⟨z54_0, z54_1⟩ := ca2 BK469
    obtain ⟨f54_0, f54_1⟩ := fa2 BK469
    go_wp2_with (first | ((with_reducible refine gf 8 ?_); refine gl 8 Tryz.func8 (some 38) #[.agg #[.int .i64 t477, .slice Ao37 t478.length co37], .agg #[.int .i64 t464, .slice Ao22 t465.length co22]] ?_; (with_reducible refine (laws_eqReq.calls _ _ _ _ _ _ _ _ _ _ _ ?side1 ?side2 ?side3 ?side4 A38.out).mono ?_); (case side1 => refine (Kd.R_reads' (e := 3) (base := w.heap.size) (ok := fun k_ => (True ∧ some k_ ≠ (.slice Ao22 t465.length co22 : Value).ownBlock)) (n := t478.length) (c := co37) ?_).2.2; exact (rx HO480 BK482)); (case side2 => exact (Kd.R_reads' HO480.out).2.1); (case side3 => refine (Kd.R_reads' (e := 3) (base := w.heap.size) (ok := fun k_ => (True ∧ some k_ ≠ (.slice Ao37 t478.length co37 : Value).ownBlock)) (n := t465.length) (c := co22) ?_).2.2; exact (rx HO467 BK482)); (case side4 => exact (Kd.R_reads' HO467.out).2.1); rintro e w55 ⟨rfl, hb⟩; refine ⟨_, rfl, ?_⟩; replace HO460 := Aside0.mk (Kd.R_below (rx HO460 BK482) hb); replace HO463 := Aside0.mk (Kd.S_below (by (with_reducible repeat (first | apply Kd.S_alloc | apply Kd.S_drewN | apply Kd.S_drew)); exact (Kd.S_mono (Kd.S_far (p := ⟨gb482, 1, none⟩) (Kd.S_far (p := ⟨gb482, 0, none⟩) (Kd.S_types HO463.out BK482.out (by decide)) (fun _ hk => hk.2) (.int .i64 t477)) (fun _ hk => hk.2) (.slice Ao37 t478.length co37)) (fun _ h_ => h_.1))) hb); replace HO467 := Aside0.mk (Kd.R_below (rx HO467 BK482) hb); replace HO472 := Aside0.mk (Kd.R_below (rx HO472 BK482) hb); replace HO475 := Aside0.mk (Kd.S_below (by (with_reducible repeat (first | apply Kd.S_alloc | apply Kd.S_drewN | apply Kd.S_drew)); exact (Kd.S_mono (Kd.S_far (p := ⟨gb482, 1, none⟩) (Kd.S_far (p := ⟨gb482, 0, none⟩) (Kd.S_types HO475.out BK482.out (by decide)) (fun _ hk => hk.2) (.int .i64 t477)) (fun _ hk => hk.2) (.slice Ao37 t478.length co37)) (fun _ h_ => h_.1))) hb); replace HO480 := Aside0.mk (Kd.R_below (rx HO480 BK482) hb); replace BK456 := b_ BK456 hb; replace BK469 := b_ BK469 hb; replace BK476 := b_ BK476 hb; replace BK482 := bq BK482 #[.int .i64 t477, .slice Ao37 t478.length co37] hb; replace HB := hs hb; try clear hb))
    go_meet
    case rel => exact ⟨_, (true), ev, H', ⟨om⟩, ⟨by (with_reducible repeat (first | apply Kd.R_alloc | apply Kd.R_drewN | apply Kd.R_drew)); exact Kd.R_mono HO467.out (fun _ hk => hk.2)⟩, ⟨by (with_reducible repeat (first | apply Kd.R_alloc | apply Kd.R_drewN | apply Kd.R_drew)); exact Kd.R_mono HO472.out (fun _ hk => trivial)⟩, ⟨by (with_reducible repeat (first | apply Kd.S_alloc | apply Kd.S_drewN | apply Kd.S_drew)); exact Kd.S_mono HO475.out (fun _ hk => ⟨hk.1.2, hk.2⟩)⟩, ⟨by (with_reducible repeat (first | apply Kd.R_alloc | apply Kd.R_drewN | apply Kd.R_drew)); exact Kd.R_mono HO480.out (fun _ hk => hk.2)⟩, ⟨bk BK456⟩, ⟨bk BK469⟩, ⟨bk BK476⟩, ⟨bk BK482⟩, ⟨bw⟩⟩
  case rest => as_aux_lemma =>
   clear HC13
   try clear c8
   try clear c8b0
   try clear c8b1
   try clear c8b2
   (try clear z14_0 z14_1)
   (try clear z21_0 z21_1)
   (try clear z23_0 z23_1)
   (try clear z29_0 z29_1)
   (try clear z36_0 z36_1)
   (try clear z6_0 z6_1)
   (try clear f14_0 f14_1)
   (try clear f21_0 f21_1)
   (try clear f23_0 f23_1)
   (try clear f29_0 f29_1)
   (try clear f36_0 f36_1)
   (try clear f6_0 f6_1)
   obtain ⟨kq, x44_12, rfl, HA, HJ12, HO_470001, HO_477000, HO_477001, HO_483001, BK456, BK469, BK476, BK482, HB⟩ := hcut
   cases kq with
   | zero => exact absurd HA.out (by simp [laws_FnExactGiveAll.j0])
   | succ kj12 =>
    have H := HA.out
    clear HA
    simp only [laws_FnExactGiveAll.j0] at H
    replace H := ib H
    rcases H with ⟨rfl, H⟩ | ⟨rfl, H⟩
    ·obtain rfl := Option.some.inj H
     go_wp2
     go_ret
     exact ⟨rt, bw⟩
    ·replace H := bn H
     obtain ⟨⟨t484, t487⟩, A57, H⟩ := H
     try dsimp only at H
     replace H := bn H
     obtain ⟨t490, A58, H⟩ := H
     try dsimp only at H
     have HU59 := Aside0.mk H
     clear H
     try go_wp2
     replace HO_470001 := Aside0.mk (Kd.R_drew HO_470001.out)
     replace HO_477000 := Aside0.mk (Kd.R_drew HO_477000.out)
     replace HO_477001 := Aside0.mk (Kd.S_drew HO_477001.out)
     replace HO_483001 := Aside0.mk (Kd.R_drew HO_483001.out)
     replace BK456 := bd BK456
     replace BK469 := bd BK469
     replace BK476 := bd BK476
     replace BK482 := bd BK482
     replace HB := hd HB
     refine st0 5 (fun w' => CA w' gb476 0 [.slice Ao26 t470.length co26, .slice Ao30 t473.length co30] ∧ CA w' gb456 0 [.slice A0_0 l0_0.length c0_0, .slice A0_1 l0_1.length c0_1]) [] ⟨cx BK476, cx BK456⟩ ?_; intro hHeld
     generalize wc.drew = w60 at HO_470001 HO_477000 HO_477001 HO_483001 BK456 BK469 BK476 BK482 HB hHeld ⊢
     refine tk 0 45 (bl 5 1) ?_
     refine tk 1 46 (bl 5 3) ?_
     refine on_ 2 (some 47) (bl 5 7) (fun K hK => ?_)
     refine gq Tryz.func6 (laws_toMach.calls _ A0_0 c0_0 _ A0_1 c0_1 _ _ _ _ (cb HR0_0) HC0_0.out (cb HR0_1) HC0_1.out A57.out) ?_
     rintro e w61 ⟨v485, v488, rfl, ho0, ho1, hb⟩
     refine ⟨_, rfl, ?_⟩
     have HO486 := Aside0.mk (Kd.R_lower (Kd.R_new' ho0 (Kd.R_lt (ro HO_477000))) (below_size bw))
     replace HO_477000 := Aside0.mk (Kd.R_elder' (ro HO_477000) (Kd.R_base ho0) hb)
     have HO489 := Aside0.mk (Kd.S_lower (Kd.S_new' (Kd.S_new' (Kd.S_new' ho1 (Kd.R_lt (ro HO_470001))) (Kd.S_lt (by (with_reducible repeat (first | apply Kd.S_alloc | apply Kd.S_drewN | apply Kd.S_drew)); exact HO_477001.out))) (Kd.R_lt (ro HO_483001))) (below_size bw))
     replace HO_470001 := Aside0.mk (Kd.R_below (ro HO_470001) hb)
     replace HO_477001 := Aside0.mk (Kd.S_elder' (by (with_reducible repeat (first | apply Kd.S_alloc | apply Kd.S_drewN | apply Kd.S_drew)); exact HO_477001.out) (Kd.S_base ho1) hb)
     replace HO_483001 := Aside0.mk (Kd.R_below (ro HO_483001) hb)
     replace BK456 := b_ BK456 hb
     replace BK469 := b_ BK469 hb
     replace BK476 := b_ BK476 hb
     replace BK482 := b_ BK482 hb
     replace HB := hs hb
     (try clear hb)
     (try clear hb2)
     (try clear hk)
     (try clear hi)
     (try clear ho0)
     (try clear ho1)
     obtain ⟨Ao62, co62, eo62⟩ := Kd.R_slice HO486.out
     (first | subst eo62 | (injection eo62 with f1_ f2_ f3_; have f4_ := f1_.symm; have f5_ := f3_.symm; clear f1_ f2_ f3_; subst f4_; subst f5_))
     obtain ⟨Ao63, co63, eo63⟩ := Kd.S_slice HO489.out
     (first | subst eo63 | (injection eo63 with f1_ f2_ f3_; have f4_ := f1_.symm; have f5_ := f3_.symm; clear f1_ f2_ f3_; subst f4_; subst f5_))
     refine hK.out _ _ ⟨cx BK476, cx BK456⟩ (fun hHeld => ?_)
     clear hK K
     refine nm ?_
     refine on_ 3 (some 48) (bl 5 15) (fun K hK => ?_)
     refine gg Tryz.func9 #[.agg #[.slice Ao26 t470.length co26, .slice Ao30 t473.length co30], .agg #[.slice Ao62 t484.length co62, .slice Ao63 t487.length co63]] ?_
     with_reducible refine (laws_eqMach.calls _ _ _ _ _ _ _ _ _ _ _ _ _ _ _ ?side1 ?side2 ?side3 ?side4 ?side5 ?side6 ?side7 ?side8 A58.out).mono ?_
     (case side1 => repeat (first | exact (Kd.R_reads' HO_477000.out).2.2 | (with_reducible refine Kd.C_alloc ?_ _) | (with_reducible refine Kd.C_drewN ?_ _) | (with_reducible refine Kd.C_drew ?_)))
     (case side2 => exact (Kd.R_reads' HO_477000.out).2.1)
     (case side3 => repeat (first | exact (Kd.S_reads' HO_477001.out).2.2 | (with_reducible refine Kd.C_alloc ?_ _) | (with_reducible refine Kd.C_drewN ?_ _) | (with_reducible refine Kd.C_drew ?_)))
     (case side4 => exact (Kd.S_reads' HO_477001.out).2.1)
     (case side5 => repeat (first | exact (Kd.R_reads' HO486.out).2.2 | (with_reducible refine Kd.C_alloc ?_ _) | (with_reducible refine Kd.C_drewN ?_ _) | (with_reducible refine Kd.C_drew ?_)))
     (case side6 => exact (Kd.R_reads' HO486.out).2.1)
     (case side7 => repeat (first | exact (Kd.S_reads' HO489.out).2.2 | (with_reducible refine Kd.C_alloc ?_ _) | (with_reducible refine Kd.C_drewN ?_ _) | (with_reducible refine Kd.C_drew ?_)))
     (case side8 => exact (Kd.S_reads' HO489.out).2.1)
     rintro e w64 ⟨rfl, hb⟩
     refine ⟨_, rfl, ?_⟩
     replace HO_470001 := Aside0.mk (Kd.R_below (ro HO_470001) hb)
     replace HO_477000 := Aside0.mk (Kd.R_below (ro HO_477000) hb)
     replace HO_477001 := Aside0.mk (Kd.S_below (by (with_reducible repeat (first | apply Kd.S_alloc | apply Kd.S_drewN | apply Kd.S_drew)); exact HO_477001.out) hb)
     replace HO_483001 := Aside0.mk (Kd.R_below (ro HO_483001) hb)
     replace HO486 := Aside0.mk (Kd.R_below (ro HO486) hb)
     replace HO489 := Aside0.mk (Kd.S_below (by (with_reducible repeat (first | apply Kd.S_alloc | apply Kd.S_drewN | apply Kd.S_drew)); exact HO489.out) hb)
     replace BK456 := b_ BK456 hb
     replace BK469 := b_ BK469 hb
     replace BK476 := b_ BK476 hb
     replace BK482 := b_ BK482 hb
     replace HB := hs hb
     (try clear hb)
     (try clear hb2)
     (try clear hk)
     (try clear hi)
     refine hK.out _ _ ⟨cx BK476, cx BK456⟩ (fun hHeld => ?_)
     clear hK K
     refine nm ?_
     refine pu 4 49 (bl 5 31) ?_
     refine dn ?_ _
     go_upto_if 49 with (fail)
     have H := HU59.out
     clear HU59
     replace H := ib H
     rcases H with ⟨rfl, H⟩ | ⟨rfl, H⟩
     ·(try simp only [Bool.not_true, Bool.not_false])
      replace H := bn H
      obtain ⟨t491, A66, H⟩ := H
      try dsimp only at H
      have HC67 := Aside0.mk H
      clear H
      have hnb68 := NB476_456.out
      have hnc68 := NB456_476.out
      have hnb69 := NB476_469.out
      have hnc69 := NB469_476.out
      have hnb70 := NB476_482.out
      have hnc70 := NB482_476.out
      obtain ⟨z71_0, z71_1⟩ := ca2 BK476
      obtain ⟨f71_0, f71_1⟩ := fa2 BK476
      go_upto_region 14 with (first | ((with_reducible refine gf 10 ?_); refine gl 10 Tryz.func10 (some 52) #[.agg #[.slice Ao26 t470.length co26, .slice Ao30 t473.length co30], .int .i64 1] ?_; (with_reducible refine (laws_markMach.calls (fun k_ => (some k_ ≠ (.slice Ao22 t465.length co22 : Value).ownBlock ∧ some k_ ≠ (.slice Ao37 t478.length co37 : Value).ownBlock) ∧ k_ ≠ gb456 ∧ k_ ≠ gb469 ∧ k_ ≠ gb476 ∧ k_ ≠ gb482) _ _ _ _ _ _ w _ ?side1 ?side2 ?side3 A66.out).mono ?_); (case side1 => repeat (first | (with_reducible first | exact HB.out | apply below_alloc | apply pw_below_drewN | apply below_drew1) | exact HB.out)); (case side2 => exact Kd.R_mono (R_off (R_off (Kd.R_types (Kd.R_types (Kd.R_types (Kd.R_types (HO_477000.out) BK456.out (by decide)) BK469.out (by decide)) BK476.out (by decide)) BK482.out (by decide)) HO_470001.out (by decide)) HO_483001.out (by decide)) (fun k_ hk_ => ⟨⟨hk_.1.2, hk_.2⟩, hk_.1.1.1.1.1.2, hk_.1.1.1.1.2, hk_.1.1.1.2, hk_.1.1.2⟩)); (case side3 => exact Kd.S_mono (Kd.S_types (Kd.S_types (Kd.S_types (Kd.S_types (HO_477001.out) BK456.out (by decide)) BK469.out (by decide)) BK476.out (by decide)) BK482.out (by decide)) (fun k_ hk_ => by first | exact ⟨hk_.1.1.1.1.1, hk_.1.1.1.2, hk_.1.1.2, hk_.1.2, hk_.2⟩ | exact ⟨hk_.1.1.1.1, hk_.1.1.1.2, hk_.1.1.2, hk_.1.2, hk_.2⟩)); rintro e w72 ⟨rfl, hm0_, hm1_, hb, hkp_⟩; refine ⟨_, rfl, ?_⟩; replace HO_470001 := Aside0.mk (Kd.R_mono (R_kept_ (Kd.R_tight rfl HO_470001.out) hkp_ (fun k_ e_ hp_ => hp_.1.1 e_)) (fun k_ e_ => HO_470001.out.1 k_ e_.symm)); replace HO_477000 := Aside0.mk (hm0_); replace HO_477001 := Aside0.mk (hm1_); replace HO_483001 := Aside0.mk (Kd.R_mono (R_kept_ (Kd.R_tight rfl HO_483001.out) hkp_ (fun k_ e_ hp_ => hp_.1.2 e_)) (fun k_ e_ => HO_483001.out.1 k_ e_.symm)); replace HO486 := Aside0.mk (Kd.R_nil (Kd.int .u32) 47 w72 w.heap.size (fun _ => True)); replace HO489 := Aside0.mk (Kd.S_nil k49 49 w72 w.heap.size (fun _ => True)); replace BK456 := Aside0.mk (blk_kept BK456.out hkp_ (fun hp_ => hp_.2.1 rfl)); replace BK469 := Aside0.mk (blk_kept BK469.out hkp_ (fun hp_ => hp_.2.2.1 rfl)); replace BK476 := Aside0.mk (blk_kept BK476.out hkp_ (fun hp_ => hp_.2.2.2.1 rfl)); replace BK482 := Aside0.mk (blk_kept BK482.out hkp_ (fun hp_ => hp_.2.2.2.2 rfl)); replace HB := Aside0.mk (hb); (try clear hb); (try clear hb2); (try clear hk); (try clear hm0_ hm1_); (try clear hkp_); (try clear hi)))
      (try refine ap ?_)
      go_cut [65] (fun v65 wc => ∃ (kq : Nat) (x65_66 : Bool), v65 = .bool x65_66 ∧ Aside0 (laws_FnExactGiveAll.j1 kq a1 t468 x65_66 l0_0 l0_1 t464 t465 t477 t478 = some r) ∧ Aside0 (kq ≤ kj12) ∧ Aside0 (Kd.R (Kd.int .i64) 3 wc w.heap.size (fun k_ => some k_ ≠ ((.slice Ao37 t478.length co37) : Value).ownBlock) (.slice Ao22 t465.length co22) t465) ∧ Aside0 (Kd.R (Kd.int .u32) 47 wc w.heap.size (fun _ => True) (.slice Ao26 t470.length co26) (Base.ups 1 t470.length)) ∧ Aside0 (Kd.S k49 49 wc w.heap.size (fun k_ => some k_ ≠ ((.slice Ao22 t465.length co22) : Value).ownBlock ∧ some k_ ≠ ((.slice Ao37 t478.length co37) : Value).ownBlock) (.slice Ao30 t473.length co30) (mkL (1 + (t470.length : Int)) t473)) ∧ Aside0 (Kd.R (Kd.int .i64) 3 wc w.heap.size (fun k_ => some k_ ≠ ((.slice Ao22 t465.length co22) : Value).ownBlock) (.slice Ao37 t478.length co37) t478) ∧ Aside0 (wc.heap[gb456]? = some (.cells #[(.slice A0_0 l0_0.length c0_0), (.slice A0_1 l0_1.length c0_1)] 27 (0, 0))) ∧ Aside0 (wc.heap[gb469]? = some (.cells #[.int .i64 t464, (.slice Ao22 t465.length co22)] 31 (0, 0))) ∧ Aside0 (wc.heap[gb476]? = some (.cells #[(.slice Ao26 t470.length co26), (.slice Ao30 t473.length co30)] 37 (0, 0))) ∧ Aside0 (wc.heap[gb482]? = some (.cells #[.int .i64 t477, (.slice Ao37 t478.length co37)] 31 (0, 0))) ∧ Aside0 (Below w.heap.size w wc))
      case first => as_aux_lemma =>
       have H := HC67.out
       clear HC67
       replace H := ilt H
       rcases H with ⟨c73b0, H⟩ | ⟨c73b0, H⟩
       ·(first | rw [c73b0] | (simp only [i64_w, i32_w]; rw [c73b0]) | (simp only [c73b2, Bool.not_true, Bool.not_false]) | (simp only [c73b1, Bool.not_true, Bool.not_false]) | skip)
        have H' := Aside0.mk H
        clear H
        go_wp2
        go_meet
        case rel => exact ⟨_, (true), ev, H', ⟨by have := HJ12.out; first | omega | exact Nat.le_refl _⟩, ⟨ro HO_470001⟩, ⟨by (with_reducible repeat (first | apply Kd.R_alloc | apply Kd.R_drewN | apply Kd.R_drew)); exact Kd.R_mono HO_477000.out (fun _ hk => trivial)⟩, ⟨by (with_reducible repeat (first | apply Kd.S_alloc | apply Kd.S_drewN | apply Kd.S_drew)); exact Kd.S_mono HO_477001.out (fun _ hk => ⟨hk.1.1, hk.1.2⟩)⟩, ⟨ro HO_483001⟩, ⟨bk BK456⟩, ⟨bk BK469⟩, ⟨bk BK476⟩, ⟨bk BK482⟩, ⟨bw⟩⟩
       ·(first | rw [c73b0] | (simp only [i64_w, i32_w]; rw [c73b0]) | (simp only [c73b2, Bool.not_true, Bool.not_false]) | (simp only [c73b1, Bool.not_true, Bool.not_false]) | skip)
        replace H := bn H
        obtain ⟨t492, A74, H⟩ := H
        try dsimp only at H
        replace H := ib H
        rcases H with ⟨rfl, H⟩ | ⟨rfl, H⟩
        ·have H' := Aside0.mk H
         clear H
         have hnb76 := NB482_456.out
         have hnc76 := NB456_482.out
         have hnb77 := NB482_469.out
         have hnc77 := NB469_482.out
         have hnb78 := NB482_476.out
         have hnc78 := NB476_482.out
         obtain ⟨z79_0, z79_1⟩ := ca2 BK482
         obtain ⟨f79_0, f79_1⟩ := fa2 BK482
         have hnb80 := NB469_456.out
         have hnc80 := NB456_469.out
         have hnb81 := NB469_476.out
         have hnc81 := NB476_469.out
         obtain ⟨z82_0, z82_1⟩ := ca2 BK469
         obtain ⟨f82_0, f82_1⟩ := fa2 BK469
         go_wp2_with (first | (go_at_call 8; (with_reducible refine (laws_eqReq.calls _ _ _ _ _ _ _ _ _ _ _ ?side1 ?side2 ?side3 ?side4 A74.out).mono ?_); (case side1 => repeat (first | exact (Kd.R_reads' HO_483001.out).2.2 | (with_reducible refine Kd.C_alloc ?_ _) | (with_reducible refine Kd.C_drewN ?_ _) | (with_reducible refine Kd.C_drew ?_))); (case side2 => exact (Kd.R_reads' HO_483001.out).2.1); (case side3 => repeat (first | exact (Kd.R_reads' HO_470001.out).2.2 | (with_reducible refine Kd.C_alloc ?_ _) | (with_reducible refine Kd.C_drewN ?_ _) | (with_reducible refine Kd.C_drew ?_))); (case side4 => exact (Kd.R_reads' HO_470001.out).2.1); rintro e w83 ⟨rfl, hb⟩; replace HO_470001 := Aside0.mk (Kd.R_below (ro HO_470001) hb); replace HO_477000 := Aside0.mk (Kd.R_below (ro HO_477000) hb); replace HO_477001 := Aside0.mk (Kd.S_below (by (with_reducible repeat (first | apply Kd.S_alloc | apply Kd.S_drewN | apply Kd.S_drew)); exact HO_477001.out) hb); replace HO_483001 := Aside0.mk (Kd.R_below (ro HO_483001) hb); replace HO486 := Aside0.mk (Kd.R_below (ro HO486) hb); replace HO489 := Aside0.mk (Kd.S_below (by (with_reducible repeat (first | apply Kd.S_alloc | apply Kd.S_drewN | apply Kd.S_drew)); exact HO489.out) hb); replace BK456 := b_ BK456 hb; replace BK469 := b_ BK469 hb; replace BK476 := b_ BK476 hb; replace BK482 := b_ BK482 hb; replace HB := hs hb; try clear hb))
         go_meet
         case rel => exact ⟨_, ((t481 != t468)), ev, H', ⟨by have := HJ12.out; first | omega | exact Nat.le_refl _⟩, ⟨ro HO_470001⟩, ⟨by (with_reducible repeat (first | apply Kd.R_alloc | apply Kd.R_drewN | apply Kd.R_drew)); exact Kd.R_mono HO_477000.out (fun _ hk => trivial)⟩, ⟨by (with_reducible repeat (first | apply Kd.S_alloc | apply Kd.S_drewN | apply Kd.S_drew)); exact Kd.S_mono HO_477001.out (fun _ hk => ⟨hk.1.1, hk.1.2⟩)⟩, ⟨ro HO_483001⟩, ⟨bk BK456⟩, ⟨bk BK469⟩, ⟨bk BK476⟩, ⟨bk BK482⟩, ⟨bw⟩⟩
        ·have H' := Aside0.mk H
         clear H
         have hnb84 := NB482_456.out
         have hnc84 := NB456_482.out
         have hnb85 := NB482_469.out
         have hnc85 := NB469_482.out
         have hnb86 := NB482_476.out
         have hnc86 := NB476_482.out
         obtain ⟨z87_0, z87_1⟩ := ca2 BK482
         obtain ⟨f87_0, f87_1⟩ := fa2 BK482
         have hnb88 := NB469_456.out
         have hnc88 := NB456_469.out
         have hnb89 := NB469_476.out
         have hnc89 := NB476_469.out
         obtain ⟨z90_0, z90_1⟩ := ca2 BK469
         obtain ⟨f90_0, f90_1⟩ := fa2 BK469
         go_wp2_with (first | (go_at_call 8; (with_reducible refine (laws_eqReq.calls _ _ _ _ _ _ _ _ _ _ _ ?side1 ?side2 ?side3 ?side4 A74.out).mono ?_); (case side1 => repeat (first | exact (Kd.R_reads' HO_483001.out).2.2 | (with_reducible refine Kd.C_alloc ?_ _) | (with_reducible refine Kd.C_drewN ?_ _) | (with_reducible refine Kd.C_drew ?_))); (case side2 => exact (Kd.R_reads' HO_483001.out).2.1); (case side3 => repeat (first | exact (Kd.R_reads' HO_470001.out).2.2 | (with_reducible refine Kd.C_alloc ?_ _) | (with_reducible refine Kd.C_drewN ?_ _) | (with_reducible refine Kd.C_drew ?_))); (case side4 => exact (Kd.R_reads' HO_470001.out).2.1); rintro e w91 ⟨rfl, hb⟩; replace HO_470001 := Aside0.mk (Kd.R_below (ro HO_470001) hb); replace HO_477000 := Aside0.mk (Kd.R_below (ro HO_477000) hb); replace HO_477001 := Aside0.mk (Kd.S_below (by (with_reducible repeat (first | apply Kd.S_alloc | apply Kd.S_drewN | apply Kd.S_drew)); exact HO_477001.out) hb); replace HO_483001 := Aside0.mk (Kd.R_below (ro HO_483001) hb); replace HO486 := Aside0.mk (Kd.R_below (ro HO486) hb); replace HO489 := Aside0.mk (Kd.S_below (by (with_reducible repeat (first | apply Kd.S_alloc | apply Kd.S_drewN | apply Kd.S_drew)); exact HO489.out) hb); replace BK456 := b_ BK456 hb; replace BK469 := b_ BK469 hb; replace BK476 := b_ BK476 hb; replace BK482 := b_ BK482 hb; replace HB := hs hb; try clear hb))
         go_meet
         case rel => exact ⟨_, (true), ev, H', ⟨by have := HJ12.out; first | omega | exact Nat.le_refl _⟩, ⟨ro HO_470001⟩, ⟨by (with_reducible repeat (first | apply Kd.R_alloc | apply Kd.R_drewN | apply Kd.R_drew)); exact Kd.R_mono HO_477000.out (fun _ hk => trivial)⟩, ⟨by (with_reducible repeat (first | apply Kd.S_alloc | apply Kd.S_drewN | apply Kd.S_drew)); exact Kd.S_mono HO_477001.out (fun _ hk => ⟨hk.1.1, hk.1.2⟩)⟩, ⟨ro HO_483001⟩, ⟨bk BK456⟩, ⟨bk BK469⟩, ⟨bk BK476⟩, ⟨bk BK482⟩, ⟨bw⟩⟩
      case rest => as_aux_lemma =>
       clear HC67
       try clear c8
       try clear c8b0
       try clear c8b1
       try clear c8b2
       try clear c56
       try clear c65
       (try clear z14_0 z14_1)
       (try clear z21_0 z21_1)
       (try clear z23_0 z23_1)
       (try clear z29_0 z29_1)
       (try clear z36_0 z36_1)
       (try clear z6_0 z6_1)
       (try clear z71_0 z71_1)
       (try clear f14_0 f14_1)
       (try clear f21_0 f21_1)
       (try clear f23_0 f23_1)
       (try clear f29_0 f29_1)
       (try clear f36_0 f36_1)
       (try clear f6_0 f6_1)
       (try clear f71_0 f71_1)
       obtain ⟨kq, x65_66, rfl, HA, HJ66, HO_470001, HO_477000, HO_477001, HO_483001, BK456, BK469, BK476, BK482, HB⟩ := hcut
       cases kq with
       | zero => exact absurd HA.out (by simp [laws_FnExactGiveAll.j1])
       | succ kj66 =>
        have H := HA.out
        clear HA
        simp only [laws_FnExactGiveAll.j1] at H
        replace H := ib H
        rcases H with ⟨rfl, H⟩ | ⟨rfl, H⟩
        ·obtain rfl := Option.some.inj H
         go_wp2
         go_ret
         exact ⟨rt, bw⟩
        ·replace H := bn H
         obtain ⟨⟨t493, t494⟩, A93, H⟩ := H
         try dsimp only at H
         replace H := bn H
         obtain ⟨t495, A94, H⟩ := H
         try dsimp only at H
         have HU95 := Aside0.mk H
         clear H
         have hnb96 := NB482_456.out
         have hnc96 := NB456_482.out
         have hnb97 := NB482_469.out
         have hnc97 := NB469_482.out
         have hnb98 := NB482_476.out
         have hnc98 := NB476_482.out
         obtain ⟨z99_0, z99_1⟩ := ca2 BK482
         obtain ⟨f99_0, f99_1⟩ := fa2 BK482
         go_upto_if 73 with (first | ((with_reducible refine gf 11 ?_); refine gl 11 Tryz.func11 (some 68) #[.agg #[.int .i64 t477, .slice Ao37 t478.length co37], .int .i64 1] ?_; (with_reducible refine (laws_markReq.calls _ _ (fun k_ => some k_ = (.slice Ao37 t478.length co37 : Value).ownBlock) _ _ _ _ _ w _ ?side1 ?side2 A93.out).mono ?_); (case side1 => repeat (first | (with_reducible first | exact HB.out | apply below_alloc | apply pw_below_drewN | apply below_drew1 | refine below_set ?_ GE456.out | refine below_set ?_ GE469.out | refine below_set ?_ GE476.out | refine below_set ?_ GE482.out) | exact HB.out)); (case side2 => exact Kd.R_tight rfl HO_483001.out); rintro e w100 ⟨rfl, hy0, hb, hkp⟩; refine ⟨_, rfl, ?_⟩; replace HO_470001 := Aside0.mk (Kd.R_mono (ok' := fun k_ => some k_ ≠ (.slice Ao37 t478.length co37 : Value).ownBlock) (Kd.R_keptB (HO_470001.out) hkp (fun k_ hk_ hs_ => (hk_) hs_)) (fun k_ hk_ => hk_.1)); replace HO_477000 := Aside0.mk (Kd.R_mono (ok' := fun k_ => True) (Kd.R_keptB ((Kd.R_apart' HO_477000.out (Kd.R_typed HO_483001.out) (by decide))) hkp (fun k_ hk_ hs_ => (hk_.2) hs_)) (fun k_ hk_ => trivial)); replace HO_477001 := Aside0.mk (Kd.S_mono (ok' := fun k_ => some k_ ≠ (.slice Ao22 t465.length co22 : Value).ownBlock ∧ some k_ ≠ (.slice Ao37 t478.length co37 : Value).ownBlock) (Kd.S_keptB (HO_477001.out) hkp (fun k_ hk_ hs_ => (hk_.2) hs_)) (fun k_ hk_ => ⟨hk_.1.1, hk_.1.2⟩)); replace BK456 := Aside0.mk (blk_kept (bk BK456) hkp (fun hs_ => (fun e_ => (Kd.R_ne HO_483001.out BK456.out (by decide)) e_) hs_)); replace BK469 := Aside0.mk (blk_kept (bk BK469) hkp (fun hs_ => (fun e_ => (Kd.R_ne HO_483001.out BK469.out (by decide)) e_) hs_)); replace BK476 := Aside0.mk (blk_kept (bk BK476) hkp (fun hs_ => (fun e_ => (Kd.R_ne HO_483001.out BK476.out (by decide)) e_) hs_)); replace BK482 := Aside0.mk (blk_kept (bk BK482) hkp (fun hs_ => (fun e_ => (Kd.R_ne HO_483001.out BK482.out (by decide)) e_) hs_)); replace HO_483001 := Aside0.mk (Kd.R_reok rfl hy0 (fun k_ e_ => HO_483001.out.1 k_ e_)); replace HB := Aside0.mk (hb); (try clear hb); (try clear hkp); (try clear hy0); obtain ⟨z101_0, z101_1⟩ := ca2 BK482; obtain ⟨f101_0, f101_1⟩ := fa2 BK482) | ((with_reducible refine gate_callee (f := 12) rfl ?_); refine goesL_ (some 71) rfl rfl Tryz.func12 kr rfl #[.agg #[.int .i64 t477, .slice Ao37 t494.length co37], .int .i64 1] rfl (by (try simp only [List.map_toArray, List.map_cons, List.map_nil]); first | done | (rw [show t494.length = t478.length from (Kd.R_reads' HO_483001.out).1.symm] <;> rfl) | rfl | (simp only [List.length_drop, List.length_take]; rfl)) ?_; (with_reducible refine (laws_heldReq.calls _ _ _ _ _ _ _ _ ?side1 ?side2 A94.out).mono ?_); (case side1 => repeat (first | exact (Kd.R_reads' HO_483001.out).2.2 | (with_reducible refine Kd.C_alloc ?_ _) | (with_reducible refine Kd.C_drewN ?_ _) | (with_reducible refine Kd.C_drew ?_))); (case side2 => rw [show t494.length = t478.length from (Kd.R_reads' HO_483001.out).1.symm]; exact (Kd.R_reads' HO_483001.out).2.1); rintro e w102 ⟨rfl, hb⟩; refine ⟨_, rfl, ?_⟩; replace HO_470001 := Aside0.mk (Kd.R_below (ro HO_470001) hb); replace HO_477000 := Aside0.mk (Kd.R_below (ro HO_477000) hb); replace HO_477001 := Aside0.mk (Kd.S_below (by (with_reducible repeat (first | apply Kd.S_alloc | apply Kd.S_drewN | apply Kd.S_drew)); exact HO_477001.out) hb); replace HO_483001 := Aside0.mk (Kd.R_below (ro HO_483001) hb); replace BK456 := b_ BK456 hb; replace BK469 := b_ BK469 hb; replace BK476 := b_ BK476 hb; replace BK482 := b_ BK482 hb; replace HB := hs hb; try clear hb))
         (try refine ap ?_)
         have H := HU95.out
         clear HU95
         replace H := ilt H
         rcases H with ⟨c103b0, H⟩ | ⟨c103b0, H⟩
         ·(first | rw [c103b0] | (simp only [i64_w, i32_w]; rw [c103b0]) | (simp only [c103b2, Bool.not_true, Bool.not_false]) | (simp only [c103b1, Bool.not_true, Bool.not_false]) | skip)
          obtain rfl := Option.some.inj H
          go_wp2
          go_ret
          exact ⟨rt, bw⟩
         ·(first | rw [c103b0] | (simp only [i64_w, i32_w]; rw [c103b0]) | (simp only [c103b2, Bool.not_true, Bool.not_false]) | (simp only [c103b1, Bool.not_true, Bool.not_false]) | skip)
          replace H := ieq H
          rcases H with ⟨c104b0, c104b1, H⟩ | ⟨c104, c104b0, c104b1, H⟩
          ·replace H := bn H
           obtain ⟨⟨t496, t499⟩, A105, H⟩ := H
           try dsimp only at H
           replace H := bn H
           obtain ⟨⟨t502, t503, t506⟩, A106, H⟩ := H
           try dsimp only at H
           have HC107 := Aside0.mk H
           clear H
           have hnb108 := NB456_469.out
           have hnc108 := NB469_456.out
           have hnb109 := NB456_476.out
           have hnc109 := NB476_456.out
           have hnb110 := NB456_482.out
           have hnc110 := NB482_456.out
           obtain ⟨z111_0, z111_1⟩ := ca2 BK456
           obtain ⟨f111_0, f111_1⟩ := fa2 BK456
           go_upto_region 25 with (first | ((with_reducible refine gf 6 ?_); refine gc Tryz.func6 (some 79) (laws_toMach.calls _ A0_0 c0_0 _ A0_1 c0_1 _ _ _ _ (cb HR0_0) HC0_0.out (cb HR0_1) HC0_1.out A105.out) ?_; rintro e w112 ⟨v497, v500, rfl, ho0, ho1, hb⟩; refine ⟨_, rfl, ?_⟩; have HO498 := Aside0.mk (Kd.R_lower (Kd.R_new' ho0 (Kd.R_lt (ro HO_477000))) (below_size bw)); replace HO_477000 := Aside0.mk (Kd.R_elder' (ro HO_477000) (Kd.R_base ho0) hb); have HO501 := Aside0.mk (Kd.S_lower (Kd.S_new' (Kd.S_new' (Kd.S_new' ho1 (Kd.R_lt (ro HO_470001))) (Kd.S_lt (by (with_reducible repeat (first | apply Kd.S_alloc | apply Kd.S_drewN | apply Kd.S_drew)); exact HO_477001.out))) (Kd.R_lt (ro HO_483001))) (below_size bw)); replace HO_470001 := Aside0.mk (Kd.R_below (ro HO_470001) hb); replace HO_477001 := Aside0.mk (Kd.S_elder' (by (with_reducible repeat (first | apply Kd.S_alloc | apply Kd.S_drewN | apply Kd.S_drew)); exact HO_477001.out) (Kd.S_base ho1) hb); replace HO_483001 := Aside0.mk (Kd.R_below (ro HO_483001) hb); replace BK456 := b_ BK456 hb; replace BK469 := b_ BK469 hb; replace BK476 := b_ BK476 hb; replace BK482 := b_ BK482 hb; replace HB := hs hb; try clear hb; (try clear ho0); (try clear ho1); obtain ⟨Ao113, co113, eo113⟩ := Kd.R_slice HO498.out; subst eo113; obtain ⟨Ao114, co114, eo114⟩ := Kd.S_slice HO501.out; subst eo114) | ((with_reducible refine gf 7 ?_); refine gl 7 Tryz.func7 (some 81) #[.agg #[.slice Ao113 t496.length co113, .slice Ao114 t499.length co114], .int .i64 a1] ?_; (with_reducible refine (impl_GiveAll.calls _ _ _ _ _ _ _ _ _ _ _ _ ?side1 ?side2 ?side3 ?side4 A106.out (hT.below bw)).mono ?_); (case side1 => repeat (first | exact (Kd.R_reads' HO498.out).2.2 | (with_reducible refine Kd.C_alloc ?_ _) | (with_reducible refine Kd.C_drewN ?_ _) | (with_reducible refine Kd.C_drew ?_))); (case side2 => exact (Kd.R_reads' HO498.out).2.1); (case side3 => repeat (first | exact (Kd.S_reads' HO501.out).2.2 | (with_reducible refine Kd.C_alloc ?_ _) | (with_reducible refine Kd.C_drewN ?_ _) | (with_reducible refine Kd.C_drew ?_))); (case side4 => exact (Kd.S_reads' HO501.out).2.1); rintro e w115 ⟨v504, rfl, ho0, hb⟩; refine ⟨_, rfl, ?_⟩; replace HO_477000 := Aside0.mk (Kd.R_below (ro HO_477000) hb); replace HO_477001 := Aside0.mk (Kd.S_elder' (by (with_reducible repeat (first | apply Kd.S_alloc | apply Kd.S_drewN | apply Kd.S_drew)); exact HO_477001.out) (Kd.R_base ho0) hb); replace HO498 := Aside0.mk (Kd.R_below (ro HO498) hb); replace HO501 := Aside0.mk (Kd.S_elder' (by (with_reducible repeat (first | apply Kd.S_alloc | apply Kd.S_drewN | apply Kd.S_drew)); exact HO501.out) (Kd.R_base ho0) hb); have HO505 := Aside0.mk (Kd.R_lower (Kd.R_new' (Kd.R_new' ho0 (Kd.R_lt (ro HO_470001))) (Kd.R_lt (ro HO_483001))) (below_size bw)); replace HO_470001 := Aside0.mk (Kd.R_elder' (ro HO_470001) (Kd.R_base ho0) hb); replace HO_483001 := Aside0.mk (Kd.R_elder' (ro HO_483001) (Kd.R_base ho0) hb); replace BK456 := b_ BK456 hb; replace BK469 := b_ BK469 hb; replace BK476 := b_ BK476 hb; replace BK482 := b_ BK482 hb; replace HB := hs hb; try clear hb; (try clear ho0)) | ((with_reducible refine gd 14 ?_); refine bx 14 31 #[.int .i64 0, .slice none 0 0] ?_; clear HB; intro gb507 w116 hg BK507 hb GE507 HB; replace HO_470001 := Aside0.mk (Kd.R_below (ro HO_470001) hb); replace HO_477000 := Aside0.mk (Kd.R_below (ro HO_477000) hb); replace HO_477001 := Aside0.mk (Kd.S_below (by (with_reducible repeat (first | apply Kd.S_alloc | apply Kd.S_drewN | apply Kd.S_drew)); exact HO_477001.out) hb); replace HO_483001 := Aside0.mk (Kd.R_below (ro HO_483001) hb); replace HO498 := Aside0.mk (Kd.R_below (ro HO498) hb); replace HO501 := Aside0.mk (Kd.S_below (by (with_reducible repeat (first | apply Kd.S_alloc | apply Kd.S_drewN | apply Kd.S_drew)); exact HO501.out) hb); replace HO505 := Aside0.mk (Kd.R_below (ro HO505) hb); have NB456_507 := nl BK456 hg; have NB507_456 := ng BK456 hg; replace BK456 := b_ BK456 hb; have NB469_507 := nl BK469 hg; have NB507_469 := ng BK469 hg; replace BK469 := b_ BK469 hb; have NB476_507 := nl BK476 hg; have NB507_476 := ng BK476 hg; replace BK476 := b_ BK476 hb; have NB482_507 := nl BK482 hg; have NB507_482 := ng BK482 hg; replace BK482 := b_ BK482 hb; clear hb hg; have hnb117 := NB507_456.out; have hnc117 := NB456_507.out; have hnb118 := NB507_469.out; have hnc118 := NB469_507.out; have hnb119 := NB507_476.out; have hnc119 := NB476_507.out; have hnb120 := NB507_482.out; have hnc120 := NB482_507.out; obtain ⟨z121_0, z121_1⟩ := ca2 BK507; obtain ⟨f121_0, f121_1⟩ := fa2 BK507; obtain ⟨Ao122, co122, eo122⟩ := Kd.R_slice HO505.out; subst eo122))
           (try refine ap ?_)
           go_cut [92] (fun v92 wc => ∃ (kq : Nat) (x92_106 : Bool), v92 = .bool x92_106 ∧ Aside0 (laws_FnExactGiveAll.j2 kq t493 x92_106 t477 t494 = some r) ∧ Aside0 (kq ≤ kj66) ∧ Aside0 (Kd.R (Kd.int .i64) 3 wc w.heap.size (fun k_ => some k_ ≠ ((.slice Ao37 t478.length co37) : Value).ownBlock ∧ some k_ ≠ ((.slice Ao122 t503.length co122) : Value).ownBlock) (.slice Ao22 t465.length co22) t465) ∧ Aside0 (Kd.R (Kd.int .u32) 47 wc w.heap.size (fun _ => True) (.slice Ao26 t470.length co26) (Base.ups 1 t470.length)) ∧ Aside0 (Kd.S k49 49 wc w.heap.size (fun k_ => some k_ ≠ ((.slice Ao22 t465.length co22) : Value).ownBlock ∧ some k_ ≠ ((.slice Ao37 t478.length co37) : Value).ownBlock ∧ some k_ ≠ ((.slice Ao122 t503.length co122) : Value).ownBlock) (.slice Ao30 t473.length co30) (mkL (1 + (t470.length : Int)) t473)) ∧ Aside0 (Kd.R (Kd.int .i64) 3 wc w.heap.size (fun k_ => some k_ ≠ ((.slice Ao22 t465.length co22) : Value).ownBlock ∧ some k_ ≠ ((.slice Ao122 t503.length co122) : Value).ownBlock) (.slice Ao37 t478.length co37) t494) ∧ Aside0 (Kd.R (Kd.int .i64) 3 wc w.heap.size (fun k_ => some k_ ≠ ((.slice Ao22 t465.length co22) : Value).ownBlock ∧ some k_ ≠ ((.slice Ao37 t478.length co37) : Value).ownBlock) (.slice Ao122 t503.length co122) t503) ∧ Aside0 (wc.heap[gb456]? = some (.cells #[(.slice A0_0 l0_0.length c0_0), (.slice A0_1 l0_1.length c0_1)] 27 (0, 0))) ∧ Aside0 (wc.heap[gb469]? = some (.cells #[.int .i64 t464, (.slice Ao22 t465.length co22)] 31 (0, 0))) ∧ Aside0 (wc.heap[gb476]? = some (.cells #[(.slice Ao26 t470.length co26), (.slice Ao30 t473.length co30)] 37 (0, 0))) ∧ Aside0 (wc.heap[gb482]? = some (.cells #[.int .i64 t477, (.slice Ao37 t478.length co37)] 31 (0, 0))) ∧ Aside0 (wc.heap[gb507]? = some (.cells #[.int .i64 t502, (.slice Ao122 t503.length co122)] 31 (0, 0))) ∧ Aside0 (Below w.heap.size w wc))
           case first => as_aux_lemma =>
            have H := HC107.out
            clear HC107
            replace H := bn H
            obtain ⟨t508, A123, H⟩ := H
            try dsimp only at H
            replace H := ib H
            rcases H with ⟨rfl, H⟩ | ⟨rfl, H⟩
            ·(try simp only [Bool.not_true, Bool.not_false])
             have H' := Aside0.mk H
             clear H
             have hnb125 := NB507_456.out
             have hnc125 := NB456_507.out
             have hnb126 := NB507_469.out
             have hnc126 := NB469_507.out
             have hnb127 := NB507_476.out
             have hnc127 := NB476_507.out
             have hnb128 := NB507_482.out
             have hnc128 := NB482_507.out
             obtain ⟨z129_0, z129_1⟩ := ca2 BK507
             obtain ⟨f129_0, f129_1⟩ := fa2 BK507
             have hnb130 := NB469_456.out
             have hnc130 := NB456_469.out
             have hnb131 := NB469_476.out
             have hnc131 := NB476_469.out
             have hnb132 := NB469_482.out
             have hnc132 := NB482_469.out
             obtain ⟨z133_0, z133_1⟩ := ca2 BK469
             obtain ⟨f133_0, f133_1⟩ := fa2 BK469
             go_wp2_with (first | ((with_reducible refine gf 8 ?_); refine gl 8 Tryz.func8 (some 86) #[.agg #[.int .i64 t502, .slice Ao122 t503.length co122], .agg #[.int .i64 t464, .slice Ao22 t465.length co22]] ?_; (with_reducible refine (laws_eqReq.calls _ _ _ _ _ _ _ _ _ _ _ ?side1 ?side2 ?side3 ?side4 A123.out).mono ?_); (case side1 => refine (Kd.R_reads' (e := 3) (base := w.heap.size) (ok := fun k_ => ((True ∧ some k_ ≠ (.slice Ao22 t465.length co22 : Value).ownBlock) ∧ some k_ ≠ (.slice Ao37 t478.length co37 : Value).ownBlock)) (n := t503.length) (c := co122) ?_).2.2; exact (rx HO505 BK507)); (case side2 => exact (Kd.R_reads' HO505.out).2.1); (case side3 => refine (Kd.R_reads' (e := 3) (base := w.heap.size) (ok := fun k_ => (some k_ ≠ (.slice Ao37 t478.length co37 : Value).ownBlock ∧ some k_ ≠ (.slice Ao122 t503.length co122 : Value).ownBlock)) (n := t465.length) (c := co22) ?_).2.2; exact (rx HO_470001 BK507)); (case side4 => exact (Kd.R_reads' HO_470001.out).2.1); rintro e w134 ⟨rfl, hb⟩; refine ⟨_, rfl, ?_⟩; replace HO_470001 := Aside0.mk (Kd.R_below (rx HO_470001 BK507) hb); replace HO_477000 := Aside0.mk (Kd.R_below (rx HO_477000 BK507) hb); replace HO_477001 := Aside0.mk (Kd.S_below (by (with_reducible repeat (first | apply Kd.S_alloc | apply Kd.S_drewN | apply Kd.S_drew)); exact (Kd.S_mono (Kd.S_far (p := ⟨gb507, 1, none⟩) (Kd.S_far (p := ⟨gb507, 0, none⟩) (Kd.S_types HO_477001.out BK507.out (by decide)) (fun _ hk => hk.2) (.int .i64 t502)) (fun _ hk => hk.2) (.slice Ao122 t503.length co122)) (fun _ h_ => h_.1))) hb); replace HO_483001 := Aside0.mk (Kd.R_below (rx HO_483001 BK507) hb); replace HO498 := Aside0.mk (Kd.R_below (rx HO498 BK507) hb); replace HO501 := Aside0.mk (Kd.S_below (by (with_reducible repeat (first | apply Kd.S_alloc | apply Kd.S_drewN | apply Kd.S_drew)); exact (Kd.S_mono (Kd.S_far (p := ⟨gb507, 1, none⟩) (Kd.S_far (p := ⟨gb507, 0, none⟩) (Kd.S_types HO501.out BK507.out (by decide)) (fun _ hk => hk.2) (.int .i64 t502)) (fun _ hk => hk.2) (.slice Ao122 t503.length co122)) (fun _ h_ => h_.1))) hb); replace HO505 := Aside0.mk (Kd.R_below (rx HO505 BK507) hb); replace BK456 := b_ BK456 hb; replace BK469 := b_ BK469 hb; replace BK476 := b_ BK476 hb; replace BK482 := b_ BK482 hb; replace BK507 := bq BK507 #[.int .i64 t502, .slice Ao122 t503.length co122] hb; replace HB := hs hb; try clear hb))
             go_meet
             case rel => exact ⟨_, ((t506 != t468)), ev, H', ⟨by have := HJ12.out; have := HJ66.out; first | omega | exact Nat.le_refl _⟩, ⟨ro HO_470001⟩, ⟨by (with_reducible repeat (first | apply Kd.R_alloc | apply Kd.R_drewN | apply Kd.R_drew)); exact Kd.R_mono HO_477000.out (fun _ hk => trivial)⟩, ⟨by (with_reducible repeat (first | apply Kd.S_alloc | apply Kd.S_drewN | apply Kd.S_drew)); exact Kd.S_mono HO_477001.out (fun _ hk => ⟨hk.1.1.1, ⟨hk.1.1.2, hk.2⟩⟩)⟩, ⟨ro HO_483001⟩, ⟨by (with_reducible repeat (first | apply Kd.R_alloc | apply Kd.R_drewN | apply Kd.R_drew)); exact Kd.R_mono HO505.out (fun _ hk => ⟨hk.1.2, hk.2⟩)⟩, ⟨bk BK456⟩, ⟨bk BK469⟩, ⟨bk BK476⟩, ⟨bk BK482⟩, ⟨bk BK507⟩, ⟨bw⟩⟩
            ·(try simp only [Bool.not_true, Bool.not_false])
             have H' := Aside0.mk H
             clear H
             have hnb135 := NB507_456.out
             have hnc135 := NB456_507.out
             have hnb136 := NB507_469.out
             have hnc136 := NB469_507.out
             have hnb137 := NB507_476.out
             have hnc137 := NB476_507.out
             have hnb138 := NB507_482.out
             have hnc138 := NB482_507.out
             obtain ⟨z139_0, z139_1⟩ := ca2 BK507
             obtain ⟨f139_0, f139_1⟩ := fa2 BK507
             have hnb140 := NB469_456.out
             have hnc140 := NB456_469.out
             have hnb141 := NB469_476.out
             have hnc141 := NB476_469.out
             have hnb142 := NB469_482.out
             have hnc142 := NB482_469.out
             obtain ⟨z143_0, z143_1⟩ := ca2 BK469
             obtain ⟨f143_0, f143_1⟩ := fa2 BK469
             go_wp2_with (first | ((with_reducible refine gf 8 ?_); refine gl 8 Tryz.func8 (some 86) #[.agg #[.int .i64 t502, .slice Ao122 t503.length co122], .agg #[.int .i64 t464, .slice Ao22 t465.length co22]] ?_; (with_reducible refine (laws_eqReq.calls _ _ _ _ _ _ _ _ _ _ _ ?side1 ?side2 ?side3 ?side4 A123.out).mono ?_); (case side1 => refine (Kd.R_reads' (e := 3) (base := w.heap.size) (ok := fun k_ => ((True ∧ some k_ ≠ (.slice Ao22 t465.length co22 : Value).ownBlock) ∧ some k_ ≠ (.slice Ao37 t478.length co37 : Value).ownBlock)) (n := t503.length) (c := co122) ?_).2.2; exact (rx HO505 BK507)); (case side2 => exact (Kd.R_reads' HO505.out).2.1); (case side3 => refine (Kd.R_reads' (e := 3) (base := w.heap.size) (ok := fun k_ => (some k_ ≠ (.slice Ao37 t478.length co37 : Value).ownBlock ∧ some k_ ≠ (.slice Ao122 t503.length co122 : Value).ownBlock)) (n := t465.length) (c := co22) ?_).2.2; exact (rx HO_470001 BK507)); (case side4 => exact (Kd.R_reads' HO_470001.out).2.1); rintro e w144 ⟨rfl, hb⟩; refine ⟨_, rfl, ?_⟩; replace HO_470001 := Aside0.mk (Kd.R_below (rx HO_470001 BK507) hb); replace HO_477000 := Aside0.mk (Kd.R_below (rx HO_477000 BK507) hb); replace HO_477001 := Aside0.mk (Kd.S_below (by (with_reducible repeat (first | apply Kd.S_alloc | apply Kd.S_drewN | apply Kd.S_drew)); exact (Kd.S_mono (Kd.S_far (p := ⟨gb507, 1, none⟩) (Kd.S_far (p := ⟨gb507, 0, none⟩) (Kd.S_types HO_477001.out BK507.out (by decide)) (fun _ hk => hk.2) (.int .i64 t502)) (fun _ hk => hk.2) (.slice Ao122 t503.length co122)) (fun _ h_ => h_.1))) hb); replace HO_483001 := Aside0.mk (Kd.R_below (rx HO_483001 BK507) hb); replace HO498 := Aside0.mk (Kd.R_below (rx HO498 BK507) hb); replace HO501 := Aside0.mk (Kd.S_below (by (with_reducible repeat (first | apply Kd.S_alloc | apply Kd.S_drewN | apply Kd.S_drew)); exact (Kd.S_mono (Kd.S_far (p := ⟨gb507, 1, none⟩) (Kd.S_far (p := ⟨gb507, 0, none⟩) (Kd.S_types HO501.out BK507.out (by decide)) (fun _ hk => hk.2) (.int .i64 t502)) (fun _ hk => hk.2) (.slice Ao122 t503.length co122)) (fun _ h_ => h_.1))) hb); replace HO505 := Aside0.mk (Kd.R_below (rx HO505 BK507) hb); replace BK456 := b_ BK456 hb; replace BK469 := b_ BK469 hb; replace BK476 := b_ BK476 hb; replace BK482 := b_ BK482 hb; replace BK507 := bq BK507 #[.int .i64 t502, .slice Ao122 t503.length co122] hb; replace HB := hs hb; try clear hb))
             go_meet
             case rel => exact ⟨_, (true), ev, H', ⟨by have := HJ12.out; have := HJ66.out; first | omega | exact Nat.le_refl _⟩, ⟨ro HO_470001⟩, ⟨by (with_reducible repeat (first | apply Kd.R_alloc | apply Kd.R_drewN | apply Kd.R_drew)); exact Kd.R_mono HO_477000.out (fun _ hk => trivial)⟩, ⟨by (with_reducible repeat (first | apply Kd.S_alloc | apply Kd.S_drewN | apply Kd.S_drew)); exact Kd.S_mono HO_477001.out (fun _ hk => ⟨hk.1.1.1, ⟨hk.1.1.2, hk.2⟩⟩)⟩, ⟨ro HO_483001⟩, ⟨by (with_reducible repeat (first | apply Kd.R_alloc | apply Kd.R_drewN | apply Kd.R_drew)); exact Kd.R_mono HO505.out (fun _ hk => ⟨hk.1.2, hk.2⟩)⟩, ⟨bk BK456⟩, ⟨bk BK469⟩, ⟨bk BK476⟩, ⟨bk BK482⟩, ⟨bk BK507⟩, ⟨bw⟩⟩
           case rest => as_aux_lemma =>
            clear HC107
            try clear c8
            try clear c8b0
            try clear c8b1
            try clear c8b2
            try clear c56
            try clear c65
            try clear c92
            try clear c103
            try clear c103b0
            try clear c103b1
            try clear c103b2
            try clear c104
            try clear c104b0
            try clear c104b1
            (try clear z101_0 z101_1)
            (try clear z111_0 z111_1)
            (try clear z121_0 z121_1)
            (try clear z14_0 z14_1)
            (try clear z21_0 z21_1)
            (try clear z23_0 z23_1)
            (try clear z29_0 z29_1)
            (try clear z36_0 z36_1)
            (try clear z6_0 z6_1)
            (try clear z71_0 z71_1)
            (try clear z99_0 z99_1)
            (try clear f101_0 f101_1)
            (try clear f111_0 f111_1)
            (try clear f121_0 f121_1)
            (try clear f14_0 f14_1)
            (try clear f21_0 f21_1)
            (try clear f23_0 f23_1)
            (try clear f29_0 f29_1)
            (try clear f36_0 f36_1)
            (try clear f6_0 f6_1)
            (try clear f71_0 f71_1)
            (try clear f99_0 f99_1)
            obtain ⟨kq, x92_106, rfl, HA, HJ106, HO_470001, HO_477000, HO_477001, HO_483001, HO_508001, BK456, BK469, BK476, BK482, BK507, HB⟩ := hcut
            have hl483001_106 := (Kd.R_reads' HO_483001.out).1
            rw [hl483001_106] at HO_483001
            (try simp only [hl483001_106])
            (try simp only [hl483001_106] at BK456)
            (try simp only [hl483001_106] at BK469)
            (try simp only [hl483001_106] at BK476)
            (try simp only [hl483001_106] at BK482)
            (try simp only [hl483001_106] at BK507)
            (try simp only [hl483001_106] at HO_470001)
            (try simp only [hl483001_106] at HO_477000)
            (try simp only [hl483001_106] at HO_477001)
            (try simp only [hl483001_106] at HO_508001)
            cases kq with
            | zero => exact absurd HA.out (by simp [laws_FnExactGiveAll.j2])
            | succ kj106 =>
             have H := HA.out
             clear HA
             simp only [laws_FnExactGiveAll.j2] at H
             replace H := ib H
             rcases H with ⟨rfl, H⟩ | ⟨rfl, H⟩
             ·obtain rfl := Option.some.inj H
              go_wp2
              go_ret
              exact ⟨rt, bw⟩
             ·replace H := bn H
              obtain ⟨t509, A146, H⟩ := H
              try dsimp only at H
              have HU147 := Aside0.mk H
              clear H
              have hnb148 := NB482_456.out
              have hnc148 := NB456_482.out
              have hnb149 := NB482_469.out
              have hnc149 := NB469_482.out
              have hnb150 := NB482_476.out
              have hnc150 := NB476_482.out
              have hnb151 := NB482_507.out
              have hnc151 := NB507_482.out
              obtain ⟨z152_0, z152_1⟩ := ca2 BK482
              obtain ⟨f152_0, f152_1⟩ := fa2 BK482
              go_upto_if 97 with (first | ((with_reducible refine gf 12 ?_); refine gc Tryz.func12 (some 95) (laws_heldReq.calls _ _ Ao37 co37 _ _ _ _ (cr HO_483001) ((Kd.R_reads' HO_483001.out).2.1) A146.out) ?_; rintro e w153 ⟨rfl, hb⟩; refine ⟨_, rfl, ?_⟩; replace HO_470001 := Aside0.mk (Kd.R_below (ro HO_470001) hb); replace HO_477000 := Aside0.mk (Kd.R_below (ro HO_477000) hb); replace HO_477001 := Aside0.mk (Kd.S_below (by (with_reducible repeat (first | apply Kd.S_alloc | apply Kd.S_drewN | apply Kd.S_drew)); exact HO_477001.out) hb); replace HO_483001 := Aside0.mk (Kd.R_below (ro HO_483001) hb); replace HO_508001 := Aside0.mk (Kd.R_below (ro HO_508001) hb); replace BK456 := b_ BK456 hb; replace BK469 := b_ BK469 hb; replace BK476 := b_ BK476 hb; replace BK482 := b_ BK482 hb; replace BK507 := b_ BK507 hb; replace HB := hs hb; try clear hb))
              (try refine ap ?_)
              have H := HU147.out
              clear HU147
              replace H := ilt H
              rcases H with ⟨c154b0, H⟩ | ⟨c154b0, H⟩
              ·(first | rw [c154b0] | (simp only [i64_w, i32_w]; rw [c154b0]) | (simp only [c154b2, Bool.not_true, Bool.not_false]) | (simp only [c154b1, Bool.not_true, Bool.not_false]) | skip)
               obtain rfl := Option.some.inj H
               go_wp2
               go_ret
               exact ⟨rt, bw⟩
              ·(first | rw [c154b0] | (simp only [i64_w, i32_w]; rw [c154b0]) | (simp only [c154b2, Bool.not_true, Bool.not_false]) | (simp only [c154b1, Bool.not_true, Bool.not_false]) | skip)
               replace H := ieq H
               rcases H with ⟨c155b0, c155b1, H⟩ | ⟨c155, c155b0, c155b1, H⟩
               ·obtain rfl := Option.some.inj H
                go_wp2
                go_ret
                exact ⟨rt, bw⟩
               ·obtain rfl := Option.some.inj H
                go_wp2
                go_ret
                exact ⟨rt, bw⟩
          ·obtain rfl := Option.some.inj H
           go_wp2
           go_ret
           exact ⟨rt, bw⟩
     ·(try simp only [Bool.not_true, Bool.not_false])
      obtain rfl := Option.some.inj H
      go_wp2
      go_ret
      exact ⟨rt, bw⟩

/-- THE ONE PURE STATEMENT of laws_FnExactGiveAll: yours. -/
def laws_FnExactGiveAll.Pure : Prop := ∀ (l0_0 : List Int) (l0_1 : List (S71)) (a1 : Int), (l0_0.length ≤ 9223372036854775807 ∧ ∀ x_ ∈ l0_0, (Lit.int .u32 x_).wf = true) → (l0_1.length ≤ 9223372036854775807 ∧ ∀ x_ ∈ l0_1, ((Lit.int .i64 x_.f0).wf = true ∧ (x_.f1.length ≤ 9223372036854775807 ∧ ∀ y_ ∈ x_.f1, (Lit.int .i64 y_).wf = true) ∧ (x_.f2.length ≤ 9223372036854775807 ∧ ∀ y_ ∈ x_.f2, (Lit.int .i64 y_).wf = true) ∧ (Lit.int .u32 x_.f3).wf = true ∧ (Lit.int .i64 x_.f4).wf = true ∧ (Lit.int .i64 x_.f5).wf = true ∧ (Lit.int .i64 x_.f6).wf = true ∧ (Lit.int .u32 x_.f7).wf = true)) → (Lit.int .i64 a1).wf = true → ∃ k, laws_FnExactGiveAll.f k l0_0 l0_1 a1 = some true

end Go.Proofs.YtobboonnfocalaaGreatDoor.PG1
