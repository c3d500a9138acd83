/- What functions of the program compute, each as a Lean function, and that the run comes to just that. Conditions: none. (Laid by this session's own program.) -/
import Derived.Test.YtobboonnfocalaaT
import Derived.Test.YtobboonnfocalaaT2
import Derived.Test.YtobboonnfocalaaPB1x0
import Derived.Test.YtobboonnfocalaaPB1x1
import Derived.Test.YtobboonnfocalaaPB1x8
import Derived.Test.YtobboonnfocalaaPB1x11
import Derived.Test.YtobboonnfocalaaPB1x12
import Derived.Test.YtobboonnfocalaaPB1x13
import Derived.Test.YtobboonnfocalaaPB1x14
import Derived.Test.YtobboonnfocalaaAdd
import Derived.Test.YtobboonnfocalaaCut
import Derived.Test.YtobboonnfocalaaFind
namespace Go.Proofs.Ytobboonnfocalaa.PB1
open Go.RowKit Go.Proofs.YtobboonnfocalaaW.PrintWords Go.Proofs.YtobboonnfocalaaW.PrintLast Go.Proofs.YtobboonnfocalaaW.PrintMore Go.Proofs.Ytobboonnfocalaa.T
attribute [local go_sem] max2_int min2_int max_two min_two max_three min_three max_four min_four   -- for this text's walks alone
set_option linter.unusedVariables false
set_option linter.unusedSimpArgs false

attribute [local go_sem high] eqA37
/-! ### laws_FnLive: function 4 -/
mutual
def laws_FnLive.j0 : Nat → List Int → List (S37) → Int → List (S37) → Bool → List (S37) → Bool → Bool → Int → Int → Option (Bool)
  | 0, _, _, _, _, _, _, _, _, _, _ => none
  | k + 1, x0, x3, x4, x6, x7, x8, x9, x56, x455000, x455001 => if x56 = true then (if (x9 == x7) = true then ((laws_sameLive.f k x8 x6).bind fun t464 => (some t464)) else (some false)) else ((laws_pick.f k x0 3 x455001).bind fun t465 => ((impl_LiveFind.f k x8 x4 (wrap64 (x455000 + t465))).bind fun bt466 => ((impl_LiveCut.f k x8 x4 x455000).bind fun bt470 => ((impl_LiveAdd.f k x8 x4 x455000 x455001).bind fun bt475 => ((impl_LiveFree.f k x8 x4).bind fun t479 => ((impl_LiveSum.f k x8 x4).bind fun t482 => (laws_FnLive.l0 k x3 x4 x8 bt466.2.2 bt470.1 bt470.2.1 bt470.2.2 bt475.2 t479 t482 0 x455000 x455001 bt466.1 bt466.2.1)))))))
def laws_FnLive.l0 : Nat → List (S37) → Int → List (S37) → Bool → List (S37) → Int → Bool → Bool → List (S37) → Int → Int → Int → Int → Int → Int → Option (Bool)
  | 0, _, _, _, _, _, _, _, _, _, _, _, _, _, _, _ => none
  | k + 1, x3, x4, x8, x11, x12, x13, x14, x16, x17, x18, x19, x455000, x455001, x470000, x470001 => if x19 < (x17.length : Int) then (if 0 ≤ x19 then ((impl_LiveFind.f k x8 x4 ((rd_T37 x17 x19).f0)).bind fun bt484 => (if bt484.2.2 = true then (some false) else (if ((rd_T37 x17 x19).f1) < 1 then (some false) else (laws_FnLive.l0 k x3 x4 x8 x11 x12 x13 x14 x16 x17 (wrap64 (x18 + ((rd_T37 x17 x19).f1))) (wrap64 (x19 + 1)) x455000 x455001 x470000 x470001)))) else (none)) else (if x11 = true then (if (x470000 == x455000 && (x470001 == x455001)) = true then (if x14 = true then (if x13 = x455001 then ((laws_sameLive.f k x12 x3).bind fun t490 => (if t490 = true then (if x16 = true then (some false) else (if x18 = x4 then ((impl_LiveSum.f k x8 x4).bind fun t491 => ((spec_LiveSum.f k x3 x4).bind fun t492 => (some (t491 == (wrap64 (t492 + x455001)))))) else (some false))) else (some false))) else (some false)) else (some false)) else (some false)) else (some false))
end
def laws_FnLive.f (k : Nat) (l0 : List Int) : Option (Bool) := (laws_big.f l0).bind fun t447 => (if t447 = true then (some true) else ((spec_DrawLiveAdd.f k l0).bind fun bt448 => ((spec_LiveAdd.f k bt448.1 bt448.2.1 bt448.2.2.1 bt448.2.2.2).bind fun bt455 => ((impl_LiveAdd.f k bt448.1 bt448.2.1 bt448.2.2.1 bt448.2.2.2).bind fun bt459 => (if (bt459.2 != bt455.2) = true then (laws_FnLive.j0 k l0 bt448.1 bt448.2.1 bt455.1 bt455.2 bt459.1 bt459.2 true bt448.2.2.1 bt448.2.2.2) else ((laws_sameLive.f k bt459.1 bt455.1).bind fun t463 => (if t463 = true then (laws_FnLive.j0 k l0 bt448.1 bt448.2.1 bt455.1 bt455.2 bt459.1 bt459.2 (!bt459.2) bt448.2.2.1 bt448.2.2.2) else (laws_FnLive.j0 k l0 bt448.1 bt448.2.1 bt455.1 bt455.2 bt459.1 bt459.2 true bt448.2.2.1 bt448.2.2.2))))))))
theorem laws_FnLive.mono_l : ∀ k, (∀ y0 y1 y2 y3 y4 y5 y6 y7 y8 y9, LeO (laws_FnLive.j0 k y0 y1 y2 y3 y4 y5 y6 y7 y8 y9) (laws_FnLive.j0 (k + 1) y0 y1 y2 y3 y4 y5 y6 y7 y8 y9)) ∧ (∀ y0 y1 y2 y3 y4 y5 y6 y7 y8 y9 y10 y11 y12 y13 y14, LeO (laws_FnLive.l0 k y0 y1 y2 y3 y4 y5 y6 y7 y8 y9 y10 y11 y12 y13 y14) (laws_FnLive.l0 (k + 1) y0 y1 y2 y3 y4 y5 y6 y7 y8 y9 y10 y11 y12 y13 y14))
  | 0 => ⟨fun _ _ _ _ _ _ _ _ _ _ r h => by simp [laws_FnLive.j0] at h, fun _ _ _ _ _ _ _ _ _ _ _ _ _ _ _ r h => by simp [laws_FnLive.l0] at h⟩
  | k + 1 => by
    obtain ⟨ih0, ih1⟩ := laws_FnLive.mono_l k
    refine ⟨?_, ?_⟩
    · intro y0 y1 y2 y3 y4 y5 y6 y7 y8 y9
      unfold laws_FnLive.j0
      repeat' first
        | (with_reducible first | exact ih0 .. | exact ih1 .. | exact impl_LiveAdd.mono .. | exact impl_LiveCut.mono .. | exact impl_LiveFind.mono .. | exact impl_LiveFree.mono .. | exact impl_LiveSum.mono .. | exact laws_pick.mono .. | exact laws_sameLive.mono .. | exact spec_DrawLiveAdd.mono .. | exact spec_LiveAdd.mono .. | exact spec_LiveSum.mono .. | exact LeO.refl _ | exact LeO.none _ | refine LeO.ite ?_ ?_ | refine LeO.bind ?_ (fun _ => ?_))
        | exact LeO.none _ | refine LeO.ite ?_ ?_ | refine LeO.bind ?_ (fun _ => ?_)
    · intro y0 y1 y2 y3 y4 y5 y6 y7 y8 y9 y10 y11 y12 y13 y14
      unfold laws_FnLive.l0
      repeat' first
        | (with_reducible first | exact ih0 .. | exact ih1 .. | exact impl_LiveAdd.mono .. | exact impl_LiveCut.mono .. | exact impl_LiveFind.mono .. | exact impl_LiveFree.mono .. | exact impl_LiveSum.mono .. | exact laws_pick.mono .. | exact laws_sameLive.mono .. | exact spec_DrawLiveAdd.mono .. | exact spec_LiveAdd.mono .. | exact spec_LiveSum.mono .. | exact LeO.refl _ | exact LeO.none _ | refine LeO.ite ?_ ?_ | refine LeO.bind ?_ (fun _ => ?_))
        | exact LeO.none _ | refine LeO.ite ?_ ?_ | refine LeO.bind ?_ (fun _ => ?_)
theorem laws_FnLive.mono : ∀ a0 k, LeO (laws_FnLive.f k a0) (laws_FnLive.f (k + 1) a0) := by
  intro a0 k
  obtain ⟨ih0, ih1⟩ := laws_FnLive.mono_l k
  unfold laws_FnLive.f
  repeat' first
    | (with_reducible first | exact ih0 .. | exact ih1 .. | exact impl_LiveAdd.mono .. | exact impl_LiveCut.mono .. | exact impl_LiveFind.mono .. | exact impl_LiveFree.mono .. | exact impl_LiveSum.mono .. | exact laws_pick.mono .. | exact laws_sameLive.mono .. | exact spec_DrawLiveAdd.mono .. | exact spec_LiveAdd.mono .. | exact spec_LiveSum.mono .. | exact LeO.refl _ | exact LeO.none _ | refine LeO.ite ?_ ?_ | refine LeO.bind ?_ (fun _ => ?_))
    | exact LeO.none _ | refine LeO.ite ?_ ?_ | refine LeO.bind ?_ (fun _ => ?_)
def laws_FnLive.T8 : Bool × List (List Nat × List Nat) := (true, [([], []), ([], []), ([], []), ([2], [2]), ([], []), ([], []), ([5], [5]), ([4, 6], [4, 6]), ([3, 7], [3, 7]), ([0, 1, 8, 7], [0, 1, 8]), ([9], [9]), ([10], [10]), ([10], [10]), ([], []), ([13, 11, 9, 0, 1, 2, 3, 4, 5, 6, 7, 8, 9, 10, 11, 13], [11, 13]), ([12, 14, 0, 1, 2, 3, 4, 5, 6, 7, 8, 9, 10, 11, 12, 13, 14], [12])])
def laws_FnLive.B8 : List Nat := [0, 0, 0, 4, 0, 0, 32, 112, 252, 511, 1023, 2047, 2047, 0, 12287, 32767]
theorem laws_FnLive.tab8 : rtab .any (opsOf Try.f4 8) = laws_FnLive.T8 := kr
theorem laws_FnLive.bits8 : waitsOk laws_FnLive.T8.2 laws_FnLive.B8 = true := kr
def laws_FnLive.T20 : Bool × List (List Nat × List Nat) := (true, [([], []), ([0], [0]), ([1], [1]), ([1], [1]), ([2, 3, 1], [1, 2, 3]), ([1, 4], [1, 4]), ([5, 1], [5]), ([6], [6]), ([6, 7], [6, 7]), ([8, 6], [8]), ([9], [9]), ([9], [9]), ([11, 9], [9, 11]), ([10, 12, 9], [9, 10, 12]), ([9, 13], [9, 13]), ([14, 9], [14]), ([15], [15]), ([15], [15]), ([16, 17, 15, 15], [15, 16, 17]), ([15, 18], [15, 18]), ([19, 18], [19]), ([20], [20]), ([21, 20], [20, 21]), ([20, 22], [20, 22]), ([23, 20], [23]), ([24], [24]), ([24], [24]), ([25, 26, 24], [24, 25, 26]), ([24, 27], [24, 27]), ([28, 24], [28]), ([29], [29]), ([29], [29]), ([30, 31, 29, 29], [29, 30, 31]), ([29], [29]), ([29], [29]), ([33, 34, 32, 29], [29, 33, 34]), ([29], [29]), ([36, 29], [29, 36]), ([35, 37, 29], [29, 35, 37]), ([32, 38, 29], [29, 32, 38]), ([29, 39], [29, 39]), ([40, 35, 0, 1, 2, 3, 4, 5, 6, 7, 8, 9, 10, 11, 12, 13, 14, 15, 16, 17, 18, 19, 20, 21, 22, 23, 24, 25, 26, 27, 28, 29, 30, 31, 32, 33, 34, 35, 36, 37, 38, 39, 40], [40])])
def laws_FnLive.B20 : List Nat := [0, 1, 3, 3, 15, 31, 63, 127, 255, 511, 1023, 1023, 3071, 8191, 16383, 32767, 65535, 65535, 262143, 524287, 1048575, 2097151, 4194303, 8388607, 16777215, 33554431, 33554431, 134217727, 268435455, 536870911, 1073741823, 1073741823, 4294967295, 1073741823, 1073741823, 34359738367, 1073741823, 69793218559, 274877906943, 549755813887, 1099511627775, 2199023255551]
theorem laws_FnLive.tab20 : rtab .any (opsOf Try.f4 20) = laws_FnLive.T20 := kr
theorem laws_FnLive.bits20 : waitsOk laws_FnLive.T20.2 laws_FnLive.B20 = true := kr
set_option maxHeartbeats 8000000 in
set_option maxRecDepth 100000 in
theorem laws_FnLive.calls (k : Nat) (A0 : Option Addr) (c0 : Nat) (l0 : List Int) (r : Bool) (w : World) (hr0 : Kd.C (Kd.int .u8) w A0 l0.length l0) (hc0 : l0.length ≤ c0) (h : laws_FnLive.f k l0 = some r) :
    Calls Try.prog 4 #[.slice A0 l0.length c0] w fun e w' => e = .returned (.bool r) ∧ Below w.heap.size w w' := by
  have hu37 := Try.underlying37
  have HR0 := Aside0.mk hr0
  have HC0 := Aside0.mk hc0
  clear hr0 hc0
  have HB := Aside0.mk (Below.refl w.heap.size w)
  unfold laws_FnLive.f at h
  have H := h
  clear h
  replace H := bn H
  obtain ⟨t447, A2, H⟩ := H
  try dsimp only at H
  have HU3 := Aside0.mk H
  clear H
  go_enter Try.func4, Try.ntmps4
  go_upto_if 23 with (first | ((with_reducible refine gf 10 ?_); refine gl 10 Try.func10 (some 23) #[.slice A0 l0.length c0] ?_; (with_reducible refine (laws_big.calls _ _ _ _ _ ?side1 ?side2 A2.out).mono ?_); (case side1 => repeat (first | exact HR0.out | (with_reducible refine Kd.C_alloc ?_ _) | (with_reducible refine Kd.C_drewN ?_ _) | (with_reducible refine Kd.C_drew ?_))); (case side2 => exact HC0.out); rintro e w' ⟨rfl, ⟨nd, rfl⟩⟩; refine ⟨_, rfl, ?_⟩))
  (try refine ap ?_)
  have H := HU3.out
  clear HU3
  replace H := ib H
  rcases H with ⟨rfl, H⟩ | ⟨rfl, H⟩
  · (try simp only [Bool.not_true, Bool.not_false])
    obtain rfl := Option.some.inj H
    go_wp2
    go_ret
    exact ⟨rt, bw⟩
  · (try simp only [Bool.not_true, Bool.not_false])
    replace H := bn H
    obtain ⟨⟨t448, t451, t452, t453⟩, A5, H⟩ := H
    try dsimp only at H
    replace H := bn H
    obtain ⟨⟨t455, t458⟩, A6, H⟩ := H
    try dsimp only at H
    replace H := bn H
    obtain ⟨⟨t459, t462⟩, A7, H⟩ := H
    try dsimp only at H
    have HC8 := Aside0.mk H
    clear H
    go_upto_region 6 with (first | ((with_reducible refine gf 11 ?_); refine gc Try.func11 (some 26) (spec_DrawLiveAdd.calls _ A0 c0 _ _ _ _ _ _ (cb HR0) HC0.out A5.out) ?_; rintro e w9 ⟨v449, rfl, ho0, hb⟩; refine ⟨_, rfl, ?_⟩; have HO450 := Aside0.mk (Kd.R_lower ho0 (below_size bw)); replace HB := hs hb; try clear hb; (try clear ho0)) | ((with_reducible refine gd 5 ?_); refine bx 5 37 #[.int .i64 0, .int .i64 0] ?_; clear HB; intro gb454 w10 hg BK454 hb GE454 HB; replace HO450 := Aside0.mk (Kd.R_below (Kd.R_elderB (ro HO450) gb454 (Nat.le_of_eq hg.symm)) hb); clear hb hg; obtain ⟨z11_0, z11_1⟩ := ca2 BK454; obtain ⟨f11_0, f11_1⟩ := fa2 BK454; obtain ⟨Ao12, co12, eo12⟩ := Kd.R_slice HO450.out; subst eo12) | ((with_reducible refine gf 12 ?_); refine gl 12 Try.func12 (some 34) #[.slice Ao12 t448.length co12, .int .i64 t451, .agg #[.int .i64 t452, .int .i64 t453]] ?_; (with_reducible refine (spec_LiveAdd.calls _ _ _ _ _ _ _ _ _ _ ?side1 ?side2 A6.out).mono ?_); (case side1 => refine (Kd.R_reads' (e := 37) (base := w.heap.size) (ok := fun k_ => (True ∧ k_ ≠ gb454)) (n := t448.length) (c := co12) ?_).2.2; exact (by (with_reducible repeat (first | apply Kd.R_alloc | apply Kd.R_drewN | apply Kd.R_drew)); exact (Kd.R_mono (Kd.R_far (p := ⟨gb454, 1, none⟩) (Kd.R_far (p := ⟨gb454, 0, none⟩) (Kd.R_mono HO450.out (fun k_ hk => (⟨hk, hk.2⟩ : _ ∧ k_ ≠ gb454))) (fun _ hk => hk.2) (.int .i64 t452)) (fun _ hk => hk.2) (.int .i64 t453)) (fun _ h_ => h_.1)))); (case side2 => exact (Kd.R_reads' HO450.out).2.1); rintro e w13 ⟨v456, rfl, ho0, hb⟩; refine ⟨_, rfl, ?_⟩; have HO457 := Aside0.mk (Kd.R_lower (Kd.R_newB (Kd.R_new' ho0 (Kd.R_lt (by (with_reducible repeat (first | apply Kd.R_alloc | apply Kd.R_drewN | apply Kd.R_drew)); exact (Kd.R_mono (Kd.R_far (p := ⟨gb454, 1, none⟩) (Kd.R_far (p := ⟨gb454, 0, none⟩) (Kd.R_mono HO450.out (fun k_ hk => (⟨hk, hk.2⟩ : _ ∧ k_ ≠ gb454))) (fun _ hk => hk.2) (.int .i64 t452)) (fun _ hk => hk.2) (.int .i64 t453)) (fun _ h_ => h_.1))))) (g := gb454) (o := .cells #[.int .i64 t452, .int .i64 t453] 37 (0, 0)) (bp BK454)) (below_size bw)); replace HO450 := Aside0.mk (Kd.R_elder' (by (with_reducible repeat (first | apply Kd.R_alloc | apply Kd.R_drewN | apply Kd.R_drew)); exact (Kd.R_mono (Kd.R_far (p := ⟨gb454, 1, none⟩) (Kd.R_far (p := ⟨gb454, 0, none⟩) (Kd.R_mono HO450.out (fun k_ hk => (⟨hk, hk.2⟩ : _ ∧ k_ ≠ gb454))) (fun _ hk => hk.2) (.int .i64 t452)) (fun _ hk => hk.2) (.int .i64 t453)) (fun _ h_ => h_.1))) (Kd.R_base ho0) hb); replace BK454 := bq BK454 #[.int .i64 t452, .int .i64 t453] hb; replace HB := hs hb; try clear hb; (try clear ho0); obtain ⟨z14_0, z14_1⟩ := ca2 BK454; obtain ⟨f14_0, f14_1⟩ := fa2 BK454) | ((with_reducible refine gf 13 ?_); refine gc Try.func13 (some 41) (impl_LiveAdd.calls _ Ao12 co12 _ _ _ _ _ _ _ (cr HO450) ((Kd.R_reads' HO450.out).2.1) A7.out) ?_; rintro e w15 ⟨v460, rfl, ho0, hb⟩; refine ⟨_, rfl, ?_⟩; have HO461 := Aside0.mk (Kd.R_lower (Kd.R_newB (Kd.R_new' (Kd.R_new' ho0 (Kd.R_lt (ro HO450))) (Kd.R_lt (ro HO457))) (g := gb454) (o := .cells #[.int .i64 t452, .int .i64 t453] 37 (0, 0)) (bk BK454)) (below_size bw)); replace HO450 := Aside0.mk (Kd.R_elder' (ro HO450) (Kd.R_base ho0) hb); replace HO457 := Aside0.mk (Kd.R_elder' (ro HO457) (Kd.R_base ho0) hb); replace BK454 := b_ BK454 hb; replace HB := hs hb; try clear hb; (try clear ho0)))
    (try refine ap ?_)
    go_cut [56] (fun v56 wc => ∃ (kq : Nat) (x56_7 : Bool), v56 = .bool x56_7 ∧ Aside0 (laws_FnLive.j0 kq l0 t448 t451 t455 t458 t459 t462 x56_7 t452 t453 = some r) ∧ Aside0 (kq ≤ k) ∧ Aside0 (Kd.R k37 37 wc w.heap.size (fun k_ => some k_ ≠ (v456 : Value).ownBlock ∧ some k_ ≠ (v460 : Value).ownBlock ∧ k_ ≠ gb454) (.slice Ao12 t448.length co12) t448) ∧ Aside0 (Kd.R k37 37 wc w.heap.size (fun k_ => some k_ ≠ ((.slice Ao12 t448.length co12) : Value).ownBlock ∧ some k_ ≠ (v460 : Value).ownBlock ∧ k_ ≠ gb454) v456 t455) ∧ Aside0 (Kd.R k37 37 wc w.heap.size (fun k_ => some k_ ≠ ((.slice Ao12 t448.length co12) : Value).ownBlock ∧ some k_ ≠ (v456 : Value).ownBlock ∧ k_ ≠ gb454) v460 t459) ∧ Aside0 (wc.heap[gb454]? = some (.cells #[.int .i64 t452, .int .i64 t453] 37 (0, 0))) ∧ Aside0 (Below w.heap.size w wc))
    case first => as_aux_lemma =>
      have H := HC8.out
      clear HC8
      by_cases c16 : (t462 != t458) = true
      · rw [if_pos c16] at H
        have c16b0 : (t462 != t458) = true := c16
        (try (have c16b1 : decide (t462 = t458) = false := by simpa using c16))
        (try (have c16b2 : (t462 == t458) = false := by simpa using c16))
        (try (have c16b3 : ¬ (t462 = t458) := by simpa using c16))
        clear c16
        (first | rw [c16b0] | (simp only [i64_w, i32_w]; rw [c16b0]) | (simp only [c16b2, Bool.not_true, Bool.not_false]) | (simp only [c16b1, Bool.not_true, Bool.not_false]) | skip)
        have H' := Aside0.mk H
        clear H
        go_wp2
        go_meet
        case rel => exact ⟨_, (true), ev, H', ⟨om⟩, ⟨by (with_reducible repeat (first | apply Kd.R_alloc | apply Kd.R_drewN | apply Kd.R_drew)); exact Kd.R_mono HO450.out (fun _ hk => ⟨hk.1.2, ⟨hk.2, hk.1.1.2⟩⟩)⟩, ⟨by (with_reducible repeat (first | apply Kd.R_alloc | apply Kd.R_drewN | apply Kd.R_drew)); exact Kd.R_mono HO457.out (fun _ hk => ⟨hk.1.1.2, ⟨hk.2, hk.1.2⟩⟩)⟩, ⟨by (with_reducible repeat (first | apply Kd.R_alloc | apply Kd.R_drewN | apply Kd.R_drew)); exact Kd.R_mono HO461.out (fun _ hk => ⟨hk.1.1.2, ⟨hk.1.2, hk.2⟩⟩)⟩, ⟨bk BK454⟩, ⟨bw⟩⟩
      · rw [if_neg c16] at H
        have c16b0 : (t462 != t458) = false := by simpa using c16
        (try (have c16b1 : decide (t462 = t458) = true := by simpa using c16))
        (try (have c16b2 : (t462 == t458) = true := by simpa using c16))
        clear c16
        (first | rw [c16b0] | (simp only [i64_w, i32_w]; rw [c16b0]) | (simp only [c16b2, Bool.not_true, Bool.not_false]) | (simp only [c16b1, Bool.not_true, Bool.not_false]) | skip)
        replace H := bn H
        obtain ⟨t463, A17, H⟩ := H
        try dsimp only at H
        replace H := ib H
        rcases H with ⟨rfl, H⟩ | ⟨rfl, H⟩
        · have H' := Aside0.mk H
          clear H
          obtain ⟨Ao19, co19, eo19⟩ := Kd.R_slice HO461.out
          subst eo19
          obtain ⟨Ao20, co20, eo20⟩ := Kd.R_slice HO457.out
          subst eo20
          go_wp2_with (first | (go_at_call 14; (with_reducible refine (laws_sameLive.calls _ _ _ _ _ _ _ _ _ ?side1 ?side2 ?side3 ?side4 A17.out).mono ?_); (case side1 => repeat (first | exact (Kd.R_reads' HO461.out).2.2 | (with_reducible refine Kd.C_alloc ?_ _) | (with_reducible refine Kd.C_drewN ?_ _) | (with_reducible refine Kd.C_drew ?_))); (case side2 => exact (Kd.R_reads' HO461.out).2.1); (case side3 => repeat (first | exact (Kd.R_reads' HO457.out).2.2 | (with_reducible refine Kd.C_alloc ?_ _) | (with_reducible refine Kd.C_drewN ?_ _) | (with_reducible refine Kd.C_drew ?_))); (case side4 => exact (Kd.R_reads' HO457.out).2.1); rintro e w' ⟨rfl, ⟨nd, rfl⟩⟩))
          go_meet
          case rel => exact ⟨_, (!t462), ev, H', ⟨om⟩, ⟨by (with_reducible repeat (first | apply Kd.R_alloc | apply Kd.R_drewN | apply Kd.R_drew)); exact Kd.R_mono HO450.out (fun _ hk => ⟨hk.1.2, ⟨hk.2, hk.1.1.2⟩⟩)⟩, ⟨by (with_reducible repeat (first | apply Kd.R_alloc | apply Kd.R_drewN | apply Kd.R_drew)); exact Kd.R_mono HO457.out (fun _ hk => ⟨hk.1.1.2, ⟨hk.2, hk.1.2⟩⟩)⟩, ⟨by (with_reducible repeat (first | apply Kd.R_alloc | apply Kd.R_drewN | apply Kd.R_drew)); exact Kd.R_mono HO461.out (fun _ hk => ⟨hk.1.1.2, ⟨hk.1.2, hk.2⟩⟩)⟩, ⟨bk BK454⟩, ⟨bw⟩⟩
        · have H' := Aside0.mk H
          clear H
          obtain ⟨Ao21, co21, eo21⟩ := Kd.R_slice HO461.out
          subst eo21
          obtain ⟨Ao22, co22, eo22⟩ := Kd.R_slice HO457.out
          subst eo22
          go_wp2_with (first | (go_at_call 14; (with_reducible refine (laws_sameLive.calls _ _ _ _ _ _ _ _ _ ?side1 ?side2 ?side3 ?side4 A17.out).mono ?_); (case side1 => repeat (first | exact (Kd.R_reads' HO461.out).2.2 | (with_reducible refine Kd.C_alloc ?_ _) | (with_reducible refine Kd.C_drewN ?_ _) | (with_reducible refine Kd.C_drew ?_))); (case side2 => exact (Kd.R_reads' HO461.out).2.1); (case side3 => repeat (first | exact (Kd.R_reads' HO457.out).2.2 | (with_reducible refine Kd.C_alloc ?_ _) | (with_reducible refine Kd.C_drewN ?_ _) | (with_reducible refine Kd.C_drew ?_))); (case side4 => exact (Kd.R_reads' HO457.out).2.1); rintro e w' ⟨rfl, ⟨nd, rfl⟩⟩))
          go_meet
          case rel => exact ⟨_, (true), ev, H', ⟨om⟩, ⟨by (with_reducible repeat (first | apply Kd.R_alloc | apply Kd.R_drewN | apply Kd.R_drew)); exact Kd.R_mono HO450.out (fun _ hk => ⟨hk.1.2, ⟨hk.2, hk.1.1.2⟩⟩)⟩, ⟨by (with_reducible repeat (first | apply Kd.R_alloc | apply Kd.R_drewN | apply Kd.R_drew)); exact Kd.R_mono HO457.out (fun _ hk => ⟨hk.1.1.2, ⟨hk.2, hk.1.2⟩⟩)⟩, ⟨by (with_reducible repeat (first | apply Kd.R_alloc | apply Kd.R_drewN | apply Kd.R_drew)); exact Kd.R_mono HO461.out (fun _ hk => ⟨hk.1.1.2, ⟨hk.1.2, hk.2⟩⟩)⟩, ⟨bk BK454⟩, ⟨bw⟩⟩
    case rest => as_aux_lemma =>
      clear HC8
      try clear c4
      (try clear z11_0 z11_1)
      (try clear z14_0 z14_1)
      (try clear f11_0 f11_1)
      (try clear f14_0 f14_1)
      obtain ⟨kq, x56_7, rfl, HA, HJ7, HO_3, HO_6, HO_8, BK454, HB⟩ := hcut
      cases kq with
      | zero => exact absurd HA.out (by simp [laws_FnLive.j0])
      | succ kj7 =>
        have H := HA.out
        clear HA
        simp only [laws_FnLive.j0] at H
        replace H := ib H
        rcases H with ⟨rfl, H⟩ | ⟨rfl, H⟩
        · by_cases c24 : (t462 == t458) = true
          · rw [if_pos c24] at H
            have c24b0 : (t462 == t458) = true := c24
            (try (have c24b1 : decide (t462 = t458) = true := by simpa using c24))
            (try (have c24b2 : (t462 == t458) = true := by simpa using c24))
            clear c24
            replace H := bn H
            obtain ⟨t464, A25, H⟩ := H
            try dsimp only at H
            obtain rfl := Option.some.inj H
            obtain ⟨Ao26, co26, eo26⟩ := Kd.R_slice HO_8.out
            subst eo26
            obtain ⟨Ao27, co27, eo27⟩ := Kd.R_slice HO_6.out
            subst eo27
            go_wp2_with (first | (go_at_call 14; (with_reducible refine (laws_sameLive.calls _ _ _ _ _ _ _ _ _ ?side1 ?side2 ?side3 ?side4 A25.out).mono ?_); (case side1 => repeat (first | exact (Kd.R_reads' HO_8.out).2.2 | (with_reducible refine Kd.C_alloc ?_ _) | (with_reducible refine Kd.C_drewN ?_ _) | (with_reducible refine Kd.C_drew ?_))); (case side2 => exact (Kd.R_reads' HO_8.out).2.1); (case side3 => repeat (first | exact (Kd.R_reads' HO_6.out).2.2 | (with_reducible refine Kd.C_alloc ?_ _) | (with_reducible refine Kd.C_drewN ?_ _) | (with_reducible refine Kd.C_drew ?_))); (case side4 => exact (Kd.R_reads' HO_6.out).2.1); rintro e w' ⟨rfl, ⟨nd, rfl⟩⟩))
            go_ret
            exact ⟨rt, bw⟩
          · rw [if_neg c24] at H
            have c24b0 : (t462 == t458) = false := by simpa using c24
            (try (have c24b1 : decide (t462 = t458) = false := by simpa using c24))
            (try (have c24b2 : (t462 == t458) = false := by simpa using c24))
            (try (have c24b3 : ¬ (t462 = t458) := by simpa using c24))
            clear c24
            obtain rfl := Option.some.inj H
            go_wp2
            go_ret
            exact ⟨rt, bw⟩
        · replace H := bn H
          obtain ⟨t465, A28, H⟩ := H
          try dsimp only at H
          replace H := bn H
          obtain ⟨⟨t466, t467, t468⟩, A29, H⟩ := H
          try dsimp only at H
          replace H := bn H
          obtain ⟨⟨t470, t471, t472⟩, A30, H⟩ := H
          try dsimp only at H
          replace H := bn H
          obtain ⟨⟨t475, t478⟩, A31, H⟩ := H
          try dsimp only at H
          replace H := bn H
          obtain ⟨t479, A32, H⟩ := H
          try dsimp only at H
          replace H := bn H
          obtain ⟨t482, A33, H⟩ := H
          try dsimp only at H
          have H' := Aside0.mk H
          clear H
          obtain ⟨Ao34, co34, eo34⟩ := Kd.R_slice HO_8.out
          subst eo34
          try go_wp2
          replace HO_3 := Aside0.mk (Kd.R_drew HO_3.out)
          replace HO_6 := Aside0.mk (Kd.R_drew HO_6.out)
          replace HO_8 := Aside0.mk (Kd.R_drew HO_8.out)
          replace BK454 := bd BK454
          replace HB := hd HB
          refine st 16 (fun w' => CA w' gb454 0 [.int .i64 t452, .int .i64 t453]) [] (cx BK454) laws_FnLive.tab8 laws_FnLive.bits8 ?_; intro hHeld HT_ HW_
          generalize wc.drew = w35 at HO_3 HO_6 HO_8 BK454 HB hHeld ⊢
          refine pu 0 66 (bl 16 1) ?_
          refine pu 1 67 (bl 16 3) ?_
          refine pu 2 68 (bl 16 7) ?_
          refine pu 4 70 (bl 16 23) ?_
          refine pu 5 71 (bl 16 55) ?_
          refine tk 3 69 (bl 16 63) ?_
          refine tk 6 72 (bl 16 127) ?_
          refine join_ (σ := Nat) 2 (bl 16 16383) (fun s_ => [(73, .int .i64 t465), (75, .tuple #[.agg #[.int .i64 t466, .int .i64 t467], .bool t468]), (10, .pointer (some ⟨s_, 0, none⟩)), (74, .int .i64 (wrap64 (t452 + t465))), (65, .tuple #[.agg #[.int .i64 t466, .int .i64 t467], .bool t468]), (76, .agg #[.int .i64 t466, .int .i64 t467]), (77, .bool t468)]) (fun s_ w' => (CA w' gb454 0 [.int .i64 t452, .int .i64 t453]) ∧ (Kd.R k37 37 w' w.heap.size (fun k_ => some k_ ≠ (v456 : Value).ownBlock ∧ some k_ ≠ (.slice Ao34 t459.length co34 : Value).ownBlock ∧ k_ ≠ gb454 ∧ k_ ≠ s_) (.slice Ao12 t448.length co12) t448) ∧ (Kd.R k37 37 w' w.heap.size (fun k_ => some k_ ≠ (.slice Ao12 t448.length co12 : Value).ownBlock ∧ some k_ ≠ (.slice Ao34 t459.length co34 : Value).ownBlock ∧ k_ ≠ gb454 ∧ k_ ≠ s_) v456 t455) ∧ (Kd.R k37 37 w' w.heap.size (fun k_ => some k_ ≠ (.slice Ao12 t448.length co12 : Value).ownBlock ∧ some k_ ≠ (v456 : Value).ownBlock ∧ k_ ≠ gb454 ∧ k_ ≠ s_) (.slice Ao34 t459.length co34) t459) ∧ (w'.heap[gb454]? = some (.cells #[.int .i64 t452, .int .i64 t453] 37 (0, 0))) ∧ (w'.heap[s_]? = some (.cells #[.int .i64 0, .int .i64 0] 37 (0, 0))) ∧ (w.heap.size ≤ s_) ∧ (w.heap.size ≤ s_) ∧ (gb454 ≠ s_) ∧ (s_ ≠ gb454) ∧ (Below w.heap.size w w')) ?_ ?_
          rotate_left
          · intro hCont
            refine two_ (i := 7) (j := 13) (Ni := some 73) (Nj := some 10) (bl 16 255) (bl 16 8319) rfl rfl rfl rfl (two_of HT_.out kr) (by decide) (by decide) (fun K hK => ?_) (fun K hK => ?_)
            · skip
              refine gq Try.func16 (laws_pick.calls _ A0 c0 _ _ _ _ _ (cb HR0) HC0.out A28.out) ?_
              rintro e w' ⟨rfl, ⟨nd, rfl⟩⟩
              refine ⟨_, rfl, ?_⟩
              refine hK.out _ _ (cx BK454) (fun hHeld => ?_)
              clear hK K
              refine nm ?_
              refine pu 8 74 (bl 16 511) ?_
              refine two_ (i := 9) (j := 13) (Ni := some 75) (Nj := some 10) (bl 16 1023) (bl 16 8703) rfl rfl rfl rfl (two_of HT_.out kr) (by decide) (by decide) (fun K hK => ?_) (fun K hK => ?_)
              · skip
                refine gq Try.func15 (impl_LiveFind.calls _ Ao34 co34 _ _ _ _ _ _ _ (cr HO_8) ((Kd.R_reads' HO_8.out).2.1) A29.out) ?_
                rintro e w36 ⟨rfl, hb⟩
                refine ⟨_, rfl, ?_⟩
                replace HO_3 := Aside0.mk (Kd.R_below (ro HO_3) hb)
                replace HO_6 := Aside0.mk (Kd.R_below (ro HO_6) hb)
                replace HO_8 := Aside0.mk (Kd.R_below (ro HO_8) hb)
                replace BK454 := b_ BK454 hb
                replace HB := hs hb
                (try clear hb)
                (try clear hb2)
                (try clear hk)
                (try clear hi)
                refine hK.out _ _ (cx BK454) (fun hHeld => ?_)
                clear hK K
                refine nm ?_
                refine pu 10 65 (bl 16 2047) ?_
                refine pu 11 76 (bl 16 4095) ?_
                refine pu 12 77 (bl 16 8191) ?_
                refine on_ 13 (some 10) (bl 16 16383) (fun K hK => ?_)
                refine box_step ?hg (N := 10) ?hd (cs := #[.int .i64 0, .int .i64 0]) (t := 37) ?hr ?_; (case hd => rfl); (case hg => rfl); (case hr => first | (go_simp; done) | (go_simp; rfl))
                intro gb469 hg w37 hbox hb
                replace HO_3 := Aside0.mk (Kd.R_below (Kd.R_elderB (ro HO_3) gb469 (Nat.le_of_eq hg.symm)) hb)
                replace HO_6 := Aside0.mk (Kd.R_below (Kd.R_elderB (ro HO_6) gb469 (Nat.le_of_eq hg.symm)) hb)
                replace HO_8 := Aside0.mk (Kd.R_below (Kd.R_elderB (ro HO_8) gb469 (Nat.le_of_eq hg.symm)) hb)
                have BK469 := Aside0.mk hbox
                have GW469 := bz hg
                have GE469 := bz hg
                have NB454_469 := nl BK454 hg
                have NB469_454 := ng BK454 hg
                replace BK454 := b_ BK454 hb
                replace HB := hs hb
                clear hb hbox hg
                refine hK.out _ _ (cx BK454) (fun hHeld => ?_)
                clear hK K
                refine nm ?_
                exact norm_ (by simp only [putAll, Act.put, List.setIfInBounds_toArray, List.set_cons_zero, List.set_cons_succ]) (hCont (gb469) _ ⟨hHeld, (by (with_reducible repeat (first | apply Kd.R_alloc | apply Kd.R_drewN | apply Kd.R_drew)); exact Kd.R_mono HO_3.out (fun _ hk => ⟨hk.1.1, ⟨hk.1.2.1, ⟨hk.1.2.2, hk.2⟩⟩⟩)), (by (with_reducible repeat (first | apply Kd.R_alloc | apply Kd.R_drewN | apply Kd.R_drew)); exact Kd.R_mono HO_6.out (fun _ hk => ⟨hk.1.1, ⟨hk.1.2.1, ⟨hk.1.2.2, hk.2⟩⟩⟩)), (by (with_reducible repeat (first | apply Kd.R_alloc | apply Kd.R_drewN | apply Kd.R_drew)); exact Kd.R_mono HO_8.out (fun _ hk => ⟨hk.1.1, ⟨hk.1.2.1, ⟨hk.1.2.2, hk.2⟩⟩⟩)), (bk BK454), (bk BK469), GW469.out, GE469.out, NB454_469.out, NB469_454.out, bw⟩)
              · skip
                refine box_step ?hg (N := 10) ?hd (cs := #[.int .i64 0, .int .i64 0]) (t := 37) ?hr ?_; (case hd => rfl); (case hg => rfl); (case hr => first | (go_simp; done) | (go_simp; rfl))
                intro gb469 hg w36 hbox hb
                replace HO_3 := Aside0.mk (Kd.R_below (Kd.R_elderB (ro HO_3) gb469 (Nat.le_of_eq hg.symm)) hb)
                replace HO_6 := Aside0.mk (Kd.R_below (Kd.R_elderB (ro HO_6) gb469 (Nat.le_of_eq hg.symm)) hb)
                replace HO_8 := Aside0.mk (Kd.R_below (Kd.R_elderB (ro HO_8) gb469 (Nat.le_of_eq hg.symm)) hb)
                have BK469 := Aside0.mk hbox
                have GW469 := bz hg
                have GE469 := bz hg
                have NB454_469 := nl BK454 hg
                have NB469_454 := ng BK454 hg
                replace BK454 := b_ BK454 hb
                replace HB := hs hb
                clear hb hbox hg
                refine hK.out _ _ (cx BK454) (fun hHeld => ?_)
                clear hK K
                refine nm ?_
                refine on_ 9 (some 75) (bl 16 9215) (fun K hK => ?_)
                refine gq Try.func15 (impl_LiveFind.calls _ Ao34 co34 _ _ _ _ _ _ _ (cr HO_8) ((Kd.R_reads' HO_8.out).2.1) A29.out) ?_
                rintro e w37 ⟨rfl, hb⟩
                refine ⟨_, rfl, ?_⟩
                replace HO_3 := Aside0.mk (Kd.R_below (ro HO_3) hb)
                replace HO_6 := Aside0.mk (Kd.R_below (ro HO_6) hb)
                replace HO_8 := Aside0.mk (Kd.R_below (ro HO_8) hb)
                replace BK454 := b_ BK454 hb
                replace BK469 := b_ BK469 hb
                replace HB := hs hb
                (try clear hb)
                (try clear hb2)
                (try clear hk)
                (try clear hi)
                refine hK.out _ _ (cx BK454) (fun hHeld => ?_)
                clear hK K
                refine nm ?_
                refine pu 10 65 (bl 16 10239) ?_
                refine pu 11 76 (bl 16 12287) ?_
                refine pu 12 77 (bl 16 16383) ?_
                exact norm_ (by simp only [putAll, Act.put, List.setIfInBounds_toArray, List.set_cons_zero, List.set_cons_succ]) (hCont (gb469) _ ⟨hHeld, (by (with_reducible repeat (first | apply Kd.R_alloc | apply Kd.R_drewN | apply Kd.R_drew)); exact Kd.R_mono HO_3.out (fun _ hk => ⟨hk.1.1, ⟨hk.1.2.1, ⟨hk.1.2.2, hk.2⟩⟩⟩)), (by (with_reducible repeat (first | apply Kd.R_alloc | apply Kd.R_drewN | apply Kd.R_drew)); exact Kd.R_mono HO_6.out (fun _ hk => ⟨hk.1.1, ⟨hk.1.2.1, ⟨hk.1.2.2, hk.2⟩⟩⟩)), (by (with_reducible repeat (first | apply Kd.R_alloc | apply Kd.R_drewN | apply Kd.R_drew)); exact Kd.R_mono HO_8.out (fun _ hk => ⟨hk.1.1, ⟨hk.1.2.1, ⟨hk.1.2.2, hk.2⟩⟩⟩)), (bk BK454), (bk BK469), GW469.out, GE469.out, NB454_469.out, NB469_454.out, bw⟩)
            · skip
              refine box_step ?hg (N := 10) ?hd (cs := #[.int .i64 0, .int .i64 0]) (t := 37) ?hr ?_; (case hd => rfl); (case hg => rfl); (case hr => first | (go_simp; done) | (go_simp; rfl))
              intro gb469 hg w36 hbox hb
              replace HO_3 := Aside0.mk (Kd.R_below (Kd.R_elderB (ro HO_3) gb469 (Nat.le_of_eq hg.symm)) hb)
              replace HO_6 := Aside0.mk (Kd.R_below (Kd.R_elderB (ro HO_6) gb469 (Nat.le_of_eq hg.symm)) hb)
              replace HO_8 := Aside0.mk (Kd.R_below (Kd.R_elderB (ro HO_8) gb469 (Nat.le_of_eq hg.symm)) hb)
              have BK469 := Aside0.mk hbox
              have GW469 := bz hg
              have GE469 := bz hg
              have NB454_469 := nl BK454 hg
              have NB469_454 := ng BK454 hg
              replace BK454 := b_ BK454 hb
              replace HB := hs hb
              clear hb hbox hg
              refine hK.out _ _ (cx BK454) (fun hHeld => ?_)
              clear hK K
              refine nm ?_
              refine on_ 7 (some 73) (bl 16 8447) (fun K hK => ?_)
              refine gq Try.func16 (laws_pick.calls _ A0 c0 _ _ _ _ _ (cb HR0) HC0.out A28.out) ?_
              rintro e w' ⟨rfl, ⟨nd, rfl⟩⟩
              refine ⟨_, rfl, ?_⟩
              refine hK.out _ _ (cx BK454) (fun hHeld => ?_)
              clear hK K
              refine nm ?_
              refine pu 8 74 (bl 16 8703) ?_
              refine on_ 9 (some 75) (bl 16 9215) (fun K hK => ?_)
              refine gq Try.func15 (impl_LiveFind.calls _ Ao34 co34 _ _ _ _ _ _ _ (cr HO_8) ((Kd.R_reads' HO_8.out).2.1) A29.out) ?_
              rintro e w37 ⟨rfl, hb⟩
              refine ⟨_, rfl, ?_⟩
              replace HO_3 := Aside0.mk (Kd.R_below (ro HO_3) hb)
              replace HO_6 := Aside0.mk (Kd.R_below (ro HO_6) hb)
              replace HO_8 := Aside0.mk (Kd.R_below (ro HO_8) hb)
              replace BK454 := b_ BK454 hb
              replace BK469 := b_ BK469 hb
              replace HB := hs hb
              (try clear hb)
              (try clear hb2)
              (try clear hk)
              (try clear hi)
              refine hK.out _ _ (cx BK454) (fun hHeld => ?_)
              clear hK K
              refine nm ?_
              refine pu 10 65 (bl 16 10239) ?_
              refine pu 11 76 (bl 16 12287) ?_
              refine pu 12 77 (bl 16 16383) ?_
              exact norm_ (by simp only [putAll, Act.put, List.setIfInBounds_toArray, List.set_cons_zero, List.set_cons_succ]) (hCont (gb469) _ ⟨hHeld, (by (with_reducible repeat (first | apply Kd.R_alloc | apply Kd.R_drewN | apply Kd.R_drew)); exact Kd.R_mono HO_3.out (fun _ hk => ⟨hk.1.1, ⟨hk.1.2.1, ⟨hk.1.2.2, hk.2⟩⟩⟩)), (by (with_reducible repeat (first | apply Kd.R_alloc | apply Kd.R_drewN | apply Kd.R_drew)); exact Kd.R_mono HO_6.out (fun _ hk => ⟨hk.1.1, ⟨hk.1.2.1, ⟨hk.1.2.2, hk.2⟩⟩⟩)), (by (with_reducible repeat (first | apply Kd.R_alloc | apply Kd.R_drewN | apply Kd.R_drew)); exact Kd.R_mono HO_8.out (fun _ hk => ⟨hk.1.1, ⟨hk.1.2.1, ⟨hk.1.2.2, hk.2⟩⟩⟩)), (bk BK454), (bk BK469), GW469.out, GE469.out, NB454_469.out, NB469_454.out, bw⟩)
          rintro gb469 w38 ⟨hS_, h0_, h1_, h2_, h3_, h4_, h5_, h6_, h7_, h8_, h9_⟩
          have n0_ : Aside0 (Kd.R k37 37 w38 w.heap.size (fun k_ => some k_ ≠ (v456 : Value).ownBlock ∧ some k_ ≠ (.slice Ao34 t459.length co34 : Value).ownBlock ∧ k_ ≠ gb454 ∧ k_ ≠ gb469) (.slice Ao12 t448.length co12) t448) := ⟨h0_⟩
          have n1_ : Aside0 (Kd.R k37 37 w38 w.heap.size (fun k_ => some k_ ≠ (.slice Ao12 t448.length co12 : Value).ownBlock ∧ some k_ ≠ (.slice Ao34 t459.length co34 : Value).ownBlock ∧ k_ ≠ gb454 ∧ k_ ≠ gb469) v456 t455) := ⟨h1_⟩
          have n2_ : Aside0 (Kd.R k37 37 w38 w.heap.size (fun k_ => some k_ ≠ (.slice Ao12 t448.length co12 : Value).ownBlock ∧ some k_ ≠ (v456 : Value).ownBlock ∧ k_ ≠ gb454 ∧ k_ ≠ gb469) (.slice Ao34 t459.length co34) t459) := ⟨h2_⟩
          have n3_ : Aside0 (w38.heap[gb454]? = some (.cells #[.int .i64 t452, .int .i64 t453] 37 (0, 0))) := ⟨h3_⟩
          have n4_ : Aside0 (w38.heap[gb469]? = some (.cells #[.int .i64 0, .int .i64 0] 37 (0, 0))) := ⟨h4_⟩
          have n5_ : Aside0 (w.heap.size ≤ gb469) := ⟨h5_⟩
          have n6_ : Aside0 (w.heap.size ≤ gb469) := ⟨h6_⟩
          have n7_ : Aside0 (gb454 ≠ gb469) := ⟨h7_⟩
          have n8_ : Aside0 (gb469 ≠ gb454) := ⟨h8_⟩
          have n9_ : Aside0 (Below w.heap.size w w38) := ⟨h9_⟩
          clear HO_3
          clear HO_6
          clear HO_8
          clear BK454
          clear HB
          clear h0_ h1_ h2_ h3_ h4_ h5_ h6_ h7_ h8_ h9_
          have HO_3 := n0_
          have HO_6 := n1_
          have HO_8 := n2_
          have BK454 := n3_
          have BK469 := n4_
          have GW469 := n5_
          have GE469 := n6_
          have NB454_469 := n7_
          have NB469_454 := n8_
          have HB := n9_
          clear n0_ n1_ n2_ n3_ n4_ n5_ n6_ n7_ n8_ n9_
          have hHeld := hS_
          refine norm_ (a' := ?_) ?_ ?_
          rotate_left
          · simp only [putAll, Act.put, List.setIfInBounds_toArray, List.set_cons_zero, List.set_cons_succ]
            rfl
          refine on_ 14 (none) (bl 16 32767) (fun K hK => ?_)
          have hs39 : w38.cell? ⟨gb469, 0, none⟩ = some (.int .i64 0) := (blk_cell BK469.out 0).trans rfl
          have hfs39 := blk_frozen BK469.out 0
          have hns39_0 := NB454_469.out
          have hms39_0 := NB469_454.out
          have hs40 : w38.cell? ⟨gb469, 1, none⟩ = some (.int .i64 0) := (blk_cell BK469.out 1).trans rfl
          have hfs40 := blk_frozen BK469.out 1
          have hns40_0 := NB454_469.out
          have hms40_0 := NB469_454.out
          refine skip_ (w1 := ?_) (by rfl) rfl ?_ ?_
          rotate_left
          · go_simp
            rfl
          refine hK.out _ _ (cf NB454_469 hHeld) (fun hHeld => ?_)
          clear hK K
          refine pu 15 11 (bl 16 65535) ?_
          refine dn ?_ _
          have hnb41 := NB454_469.out
          have hnc41 := NB469_454.out
          obtain ⟨z42_0, z42_1⟩ := ca2 BK454
          obtain ⟨f42_0, f42_1⟩ := fa2 BK454
          try go_wp2_with (first | ((with_reducible refine gf 17 ?_); refine gl 17 Try.func17 (some 83) #[.slice Ao34 t459.length co34, .int .i64 t451, .int .i64 t452] ?_; (with_reducible refine (impl_LiveCut.calls _ _ _ _ _ _ _ _ _ _ ?side1 ?side2 A30.out).mono ?_); (case side1 => refine (Kd.R_reads' (e := 37) (base := w.heap.size) (ok := fun k_ => (some k_ ≠ (.slice Ao12 t448.length co12 : Value).ownBlock ∧ (some k_ ≠ (v456 : Value).ownBlock ∧ (k_ ≠ gb454 ∧ k_ ≠ gb469)))) (n := t459.length) (c := co34) ?_).2.2; exact (by (with_reducible repeat (first | apply Kd.R_alloc | apply Kd.R_drewN | apply Kd.R_drew)); exact (Kd.R_mono (Kd.R_far (p := ⟨gb469, 1, none⟩) (Kd.R_far (p := ⟨gb469, 0, none⟩) (Kd.R_mono HO_8.out (fun k_ hk => (⟨hk, hk.2.2.2⟩ : _ ∧ k_ ≠ gb469))) (fun _ hk => hk.2) (.int .i64 t466)) (fun _ hk => hk.2) (.int .i64 t467)) (fun _ h_ => h_.1)))); (case side2 => exact (Kd.R_reads' HO_8.out).2.1); rintro e w43 ⟨v473, rfl, ho0, hb⟩; refine ⟨_, rfl, ?_⟩; have HO474 := Aside0.mk (Kd.R_lower (Kd.R_newB (Kd.R_newB (Kd.R_new' (Kd.R_new' (Kd.R_new' ho0 (Kd.R_lt (by (with_reducible repeat (first | apply Kd.R_alloc | apply Kd.R_drewN | apply Kd.R_drew)); exact (Kd.R_mono (Kd.R_far (p := ⟨gb469, 1, none⟩) (Kd.R_far (p := ⟨gb469, 0, none⟩) (Kd.R_mono HO_3.out (fun k_ hk => (⟨hk, hk.2.2.2⟩ : _ ∧ k_ ≠ gb469))) (fun _ hk => hk.2) (.int .i64 t466)) (fun _ hk => hk.2) (.int .i64 t467)) (fun _ h_ => h_.1))))) (Kd.R_lt (by (with_reducible repeat (first | apply Kd.R_alloc | apply Kd.R_drewN | apply Kd.R_drew)); exact (Kd.R_mono (Kd.R_far (p := ⟨gb469, 1, none⟩) (Kd.R_far (p := ⟨gb469, 0, none⟩) (Kd.R_mono HO_6.out (fun k_ hk => (⟨hk, hk.2.2.2⟩ : _ ∧ k_ ≠ gb469))) (fun _ hk => hk.2) (.int .i64 t466)) (fun _ hk => hk.2) (.int .i64 t467)) (fun _ h_ => h_.1))))) (Kd.R_lt (by (with_reducible repeat (first | apply Kd.R_alloc | apply Kd.R_drewN | apply Kd.R_drew)); exact (Kd.R_mono (Kd.R_far (p := ⟨gb469, 1, none⟩) (Kd.R_far (p := ⟨gb469, 0, none⟩) (Kd.R_mono HO_8.out (fun k_ hk => (⟨hk, hk.2.2.2⟩ : _ ∧ k_ ≠ gb469))) (fun _ hk => hk.2) (.int .i64 t466)) (fun _ hk => hk.2) (.int .i64 t467)) (fun _ h_ => h_.1))))) (g := gb454) (o := .cells #[.int .i64 t452, .int .i64 t453] 37 (0, 0)) (bk BK454)) (g := gb469) (o := .cells #[.int .i64 t466, .int .i64 t467] 37 (0, 0)) (bp BK469)) (below_size bw)); replace HO_3 := Aside0.mk (Kd.R_elder' (by (with_reducible repeat (first | apply Kd.R_alloc | apply Kd.R_drewN | apply Kd.R_drew)); exact (Kd.R_mono (Kd.R_far (p := ⟨gb469, 1, none⟩) (Kd.R_far (p := ⟨gb469, 0, none⟩) (Kd.R_mono HO_3.out (fun k_ hk => (⟨hk, hk.2.2.2⟩ : _ ∧ k_ ≠ gb469))) (fun _ hk => hk.2) (.int .i64 t466)) (fun _ hk => hk.2) (.int .i64 t467)) (fun _ h_ => h_.1))) (Kd.R_base ho0) hb); replace HO_6 := Aside0.mk (Kd.R_elder' (by (with_reducible repeat (first | apply Kd.R_alloc | apply Kd.R_drewN | apply Kd.R_drew)); exact (Kd.R_mono (Kd.R_far (p := ⟨gb469, 1, none⟩) (Kd.R_far (p := ⟨gb469, 0, none⟩) (Kd.R_mono HO_6.out (fun k_ hk => (⟨hk, hk.2.2.2⟩ : _ ∧ k_ ≠ gb469))) (fun _ hk => hk.2) (.int .i64 t466)) (fun _ hk => hk.2) (.int .i64 t467)) (fun _ h_ => h_.1))) (Kd.R_base ho0) hb); replace HO_8 := Aside0.mk (Kd.R_elder' (by (with_reducible repeat (first | apply Kd.R_alloc | apply Kd.R_drewN | apply Kd.R_drew)); exact (Kd.R_mono (Kd.R_far (p := ⟨gb469, 1, none⟩) (Kd.R_far (p := ⟨gb469, 0, none⟩) (Kd.R_mono HO_8.out (fun k_ hk => (⟨hk, hk.2.2.2⟩ : _ ∧ k_ ≠ gb469))) (fun _ hk => hk.2) (.int .i64 t466)) (fun _ hk => hk.2) (.int .i64 t467)) (fun _ h_ => h_.1))) (Kd.R_base ho0) hb); replace BK454 := b_ BK454 hb; replace BK469 := bq BK469 #[.int .i64 t466, .int .i64 t467] hb; replace HB := hs hb; try clear hb; (try clear ho0); obtain ⟨z44_0, z44_1⟩ := ca2 BK454; obtain ⟨f44_0, f44_1⟩ := fa2 BK454) | ((with_reducible refine gf 13 ?_); refine gc Try.func13 (some 91) (impl_LiveAdd.calls _ Ao34 co34 _ _ _ _ _ _ _ (cr HO_8) ((Kd.R_reads' HO_8.out).2.1) A31.out) ?_; rintro e w45 ⟨v476, rfl, ho0, hb⟩; refine ⟨_, rfl, ?_⟩; have HO477 := Aside0.mk (Kd.R_lower (Kd.R_newB (Kd.R_newB (Kd.R_new' (Kd.R_new' (Kd.R_new' (Kd.R_new' ho0 (Kd.R_lt (ro HO_3))) (Kd.R_lt (ro HO_6))) (Kd.R_lt (ro HO_8))) (Kd.R_lt (ro HO474))) (g := gb454) (o := .cells #[.int .i64 t452, .int .i64 t453] 37 (0, 0)) (bk BK454)) (g := gb469) (o := .cells #[.int .i64 t466, .int .i64 t467] 37 (0, 0)) (bk BK469)) (below_size bw)); replace HO_3 := Aside0.mk (Kd.R_elder' (ro HO_3) (Kd.R_base ho0) hb); replace HO_6 := Aside0.mk (Kd.R_elder' (ro HO_6) (Kd.R_base ho0) hb); replace HO_8 := Aside0.mk (Kd.R_elder' (ro HO_8) (Kd.R_base ho0) hb); replace HO474 := Aside0.mk (Kd.R_elder' (ro HO474) (Kd.R_base ho0) hb); replace BK454 := b_ BK454 hb; replace BK469 := b_ BK469 hb; replace HB := hs hb; try clear hb; (try clear ho0)) | ((with_reducible refine gf 18 ?_); refine gc Try.func18 (some 96) (impl_LiveFree.calls _ Ao34 co34 _ _ _ _ (cr HO_8) ((Kd.R_reads' HO_8.out).2.1) A32.out) ?_; rintro e w46 ⟨v480, rfl, ho0, hb⟩; refine ⟨_, rfl, ?_⟩; have HO481 := Aside0.mk (Kd.R_lower (Kd.R_newB (Kd.R_newB (Kd.R_new' (Kd.R_new' (Kd.R_new' (Kd.R_new' (Kd.R_new' ho0 (Kd.R_lt (ro HO_3))) (Kd.R_lt (ro HO_6))) (Kd.R_lt (ro HO_8))) (Kd.R_lt (ro HO474))) (Kd.R_lt (ro HO477))) (g := gb454) (o := .cells #[.int .i64 t452, .int .i64 t453] 37 (0, 0)) (bk BK454)) (g := gb469) (o := .cells #[.int .i64 t466, .int .i64 t467] 37 (0, 0)) (bk BK469)) (below_size bw)); replace HO_3 := Aside0.mk (Kd.R_elder' (ro HO_3) (Kd.R_base ho0) hb); replace HO_6 := Aside0.mk (Kd.R_elder' (ro HO_6) (Kd.R_base ho0) hb); replace HO_8 := Aside0.mk (Kd.R_elder' (ro HO_8) (Kd.R_base ho0) hb); replace HO474 := Aside0.mk (Kd.R_elder' (ro HO474) (Kd.R_base ho0) hb); replace HO477 := Aside0.mk (Kd.R_elder' (ro HO477) (Kd.R_base ho0) hb); replace BK454 := b_ BK454 hb; replace BK469 := b_ BK469 hb; replace HB := hs hb; try clear hb; (try clear ho0)) | ((with_reducible refine gf 19 ?_); refine gc Try.func19 (some 99) (impl_LiveSum.calls _ Ao34 co34 _ _ _ _ (cr HO_8) ((Kd.R_reads' HO_8.out).2.1) A33.out) ?_; rintro e w47 ⟨rfl, hb⟩; refine ⟨_, rfl, ?_⟩; replace HO_3 := Aside0.mk (Kd.R_below (ro HO_3) hb); replace HO_6 := Aside0.mk (Kd.R_below (ro HO_6) hb); replace HO_8 := Aside0.mk (Kd.R_below (ro HO_8) hb); replace HO474 := Aside0.mk (Kd.R_below (ro HO474) hb); replace HO477 := Aside0.mk (Kd.R_below (ro HO477) hb); replace HO481 := Aside0.mk (Kd.R_below (ro HO481) hb); replace BK454 := b_ BK454 hb; replace BK469 := b_ BK469 hb; replace HB := hs hb; try clear hb))
          go_loopg [18, 19] kj7 (fun kq v18 v19 w' => ∃ (x18_2 : Int) (x19_2 : Int), v18 = .int .i64 x18_2 ∧ v19 = .int .i64 x19_2 ∧ Aside0 (laws_FnLive.l0 kq t448 t451 t459 t468 t470 t471 t472 t478 t479 x18_2 x19_2 t452 t453 t466 t467 = some r) ∧ Aside0 (kq ≤ kj7) ∧ Aside0 (Kd.R k37 37 w' w.heap.size (fun k_ => some k_ ≠ ((.slice Ao34 t459.length co34) : Value).ownBlock ∧ some k_ ≠ (v473 : Value).ownBlock ∧ some k_ ≠ (v480 : Value).ownBlock ∧ k_ ≠ gb454 ∧ k_ ≠ gb469) (.slice Ao12 t448.length co12) t448) ∧ Aside0 (Kd.R k37 37 w' w.heap.size (fun k_ => some k_ ≠ ((.slice Ao12 t448.length co12) : Value).ownBlock ∧ some k_ ≠ (v473 : Value).ownBlock ∧ some k_ ≠ (v480 : Value).ownBlock ∧ k_ ≠ gb454 ∧ k_ ≠ gb469) (.slice Ao34 t459.length co34) t459) ∧ Aside0 (Kd.R k37 37 w' w.heap.size (fun k_ => some k_ ≠ ((.slice Ao12 t448.length co12) : Value).ownBlock ∧ some k_ ≠ ((.slice Ao34 t459.length co34) : Value).ownBlock ∧ some k_ ≠ (v480 : Value).ownBlock ∧ k_ ≠ gb454 ∧ k_ ≠ gb469) v473 t470) ∧ Aside0 (Kd.R k37 37 w' w.heap.size (fun k_ => some k_ ≠ ((.slice Ao12 t448.length co12) : Value).ownBlock ∧ some k_ ≠ ((.slice Ao34 t459.length co34) : Value).ownBlock ∧ some k_ ≠ (v473 : Value).ownBlock ∧ k_ ≠ gb454 ∧ k_ ≠ gb469) v480 t479) ∧ Aside0 (w'.heap[gb454]? = some (.cells #[.int .i64 t452, .int .i64 t453] 37 (0, 0))) ∧ Aside0 (w'.heap[gb469]? = some (.cells #[.int .i64 t466, .int .i64 t467] 37 (0, 0))) ∧ Aside0 (Below w.heap.size w w'))
          case atStart => exact ⟨(t482), (0), ev, ev, H', ⟨Nat.le_refl _⟩, ⟨by (with_reducible repeat (first | apply Kd.R_alloc | apply Kd.R_drewN | apply Kd.R_drew)); exact Kd.R_mono HO_3.out (fun _ hk => ⟨hk.1.1.1.2.1, ⟨hk.1.1.2, ⟨hk.2, ⟨hk.1.1.1.2.2.1, hk.1.1.1.2.2.2⟩⟩⟩⟩)⟩, ⟨by (with_reducible repeat (first | apply Kd.R_alloc | apply Kd.R_drewN | apply Kd.R_drew)); exact Kd.R_mono HO_8.out (fun _ hk => ⟨hk.1.1.1.1, ⟨hk.1.1.2, ⟨hk.2, ⟨hk.1.1.1.2.2.1, hk.1.1.1.2.2.2⟩⟩⟩⟩)⟩, ⟨by (with_reducible repeat (first | apply Kd.R_alloc | apply Kd.R_drewN | apply Kd.R_drew)); exact Kd.R_mono HO474.out (fun _ hk => ⟨hk.1.1.1.1.1.1.2, ⟨hk.1.1.1.1.2, ⟨hk.2, ⟨hk.1.1.1.2, hk.1.1.2⟩⟩⟩⟩)⟩, ⟨by (with_reducible repeat (first | apply Kd.R_alloc | apply Kd.R_drewN | apply Kd.R_drew)); exact Kd.R_mono HO481.out (fun _ hk => ⟨hk.1.1.1.1.1.1.2, ⟨hk.1.1.1.1.2, ⟨hk.1.1.1.2, ⟨hk.1.2, hk.2⟩⟩⟩⟩)⟩, ⟨bk BK454⟩, ⟨bk BK469⟩, ⟨bw⟩⟩
          case round =>
            clear H'
            try clear c4
            try clear c23
            (try clear z11_0 z11_1)
            (try clear z14_0 z14_1)
            (try clear z42_0 z42_1)
            (try clear z44_0 z44_1)
            (try clear f11_0 f11_1)
            (try clear f14_0 f14_1)
            (try clear f42_0 f42_1)
            (try clear f44_0 f44_1)
            obtain ⟨x18_2, x19_2, rfl, rfl, HA, HK2, HO_3, HO_8, HO_12, HO_17, BK454, BK469, HB⟩ := hrel
            cases gk with
            | zero => exact absurd HA.out (by simp [laws_FnLive.l0])
            | succ k2 =>
              have H := HA.out
              clear HA
              simp only [laws_FnLive.l0] at H
              replace H := ilt H
              rcases H with ⟨c48b0, H⟩ | ⟨c48b0, H⟩
              · by_cases c49 : 0 ≤ x19_2
                · rw [if_pos c49] at H
                  have c49b0 : decide (0 ≤ x19_2) = true := decide_eq_true c49
                  clear c49
                  replace H := bn H
                  obtain ⟨⟨t484, t485, t486⟩, A50, H⟩ := H
                  try dsimp only at H
                  replace H := ib H
                  rcases H with ⟨rfl, H⟩ | ⟨rfl, H⟩
                  · obtain rfl := Option.some.inj H
                    obtain ⟨Ao52, co52, eo52⟩ := Kd.R_slice HO_17.out
                    subst eo52
                    have p483 : 0 ≤ (x19_2 : Int) := of_decide_eq_true as_
                    have q483 : x19_2 < (t479.length : Int) := of_decide_eq_true as_
                    obtain ⟨ad483, e483, hx483_0, hx483_1⟩ := at_T37 (Kd.R_reads' HO_17.out).2.2 x19_2 p483 q483
                    cases e483
                    replace p483 := eq_true p483
                    replace q483 := eq_true q483
                    go_wp2_with (first | ((with_reducible refine gf 15 ?_); refine gc Try.func15 (some 114) (impl_LiveFind.calls _ Ao34 co34 _ _ _ _ _ _ _ (cr HO_8) ((Kd.R_reads' HO_8.out).2.1) A50.out) ?_; rintro e w53 ⟨rfl, hb⟩; refine ⟨_, rfl, ?_⟩; replace HO_3 := Aside0.mk (Kd.R_below (ro HO_3) hb); replace HO_8 := Aside0.mk (Kd.R_below (ro HO_8) hb); replace HO_12 := Aside0.mk (Kd.R_below (ro HO_12) hb); replace HO_17 := Aside0.mk (Kd.R_below (ro HO_17) hb); replace BK454 := b_ BK454 hb; replace BK469 := b_ BK469 hb; replace HB := hs hb; try clear hb) | ((with_reducible refine gd 20 ?_); refine bx 20 37 #[.int .i64 0, .int .i64 0] ?_; clear HB; intro gb487 w54 hg BK487 hb GE487 HB; replace HO_3 := Aside0.mk (Kd.R_below (Kd.R_elderB (ro HO_3) gb487 (Nat.le_of_eq hg.symm)) hb); replace HO_8 := Aside0.mk (Kd.R_below (Kd.R_elderB (ro HO_8) gb487 (Nat.le_of_eq hg.symm)) hb); replace HO_12 := Aside0.mk (Kd.R_below (Kd.R_elderB (ro HO_12) gb487 (Nat.le_of_eq hg.symm)) hb); replace HO_17 := Aside0.mk (Kd.R_below (Kd.R_elderB (ro HO_17) gb487 (Nat.le_of_eq hg.symm)) hb); have NB454_487 := nl BK454 hg; have NB487_454 := ng BK454 hg; replace BK454 := b_ BK454 hb; have NB469_487 := nl BK469 hg; have NB487_469 := ng BK469 hg; replace BK469 := b_ BK469 hb; clear hb hg; have hnb55 := NB487_454.out; have hnc55 := NB454_487.out; have hnb56 := NB487_469.out; have hnc56 := NB469_487.out; obtain ⟨z57_0, z57_1⟩ := ca2 BK487; obtain ⟨f57_0, f57_1⟩ := fa2 BK487))
                    go_ret
                    exact ⟨rt, bw⟩
                  · have HU58 := Aside0.mk H
                    clear H
                    obtain ⟨Ao59, co59, eo59⟩ := Kd.R_slice HO_17.out
                    subst eo59
                    have p483 : 0 ≤ (x19_2 : Int) := of_decide_eq_true as_
                    have q483 : x19_2 < (t479.length : Int) := of_decide_eq_true as_
                    obtain ⟨ad483, e483, hx483_0, hx483_1⟩ := at_T37 (Kd.R_reads' HO_17.out).2.2 x19_2 p483 q483
                    cases e483
                    replace p483 := eq_true p483
                    replace q483 := eq_true q483
                    go_upto_if 125 with (first | ((with_reducible refine gf 15 ?_); refine gc Try.func15 (some 114) (impl_LiveFind.calls _ Ao34 co34 _ _ _ _ _ _ _ (cr HO_8) ((Kd.R_reads' HO_8.out).2.1) A50.out) ?_; rintro e w60 ⟨rfl, hb⟩; refine ⟨_, rfl, ?_⟩; replace HO_3 := Aside0.mk (Kd.R_below (ro HO_3) hb); replace HO_8 := Aside0.mk (Kd.R_below (ro HO_8) hb); replace HO_12 := Aside0.mk (Kd.R_below (ro HO_12) hb); replace HO_17 := Aside0.mk (Kd.R_below (ro HO_17) hb); replace BK454 := b_ BK454 hb; replace BK469 := b_ BK469 hb; replace HB := hs hb; try clear hb) | ((with_reducible refine gd 20 ?_); refine bx 20 37 #[.int .i64 0, .int .i64 0] ?_; clear HB; intro gb487 w61 hg BK487 hb GE487 HB; replace HO_3 := Aside0.mk (Kd.R_below (Kd.R_elderB (ro HO_3) gb487 (Nat.le_of_eq hg.symm)) hb); replace HO_8 := Aside0.mk (Kd.R_below (Kd.R_elderB (ro HO_8) gb487 (Nat.le_of_eq hg.symm)) hb); replace HO_12 := Aside0.mk (Kd.R_below (Kd.R_elderB (ro HO_12) gb487 (Nat.le_of_eq hg.symm)) hb); replace HO_17 := Aside0.mk (Kd.R_below (Kd.R_elderB (ro HO_17) gb487 (Nat.le_of_eq hg.symm)) hb); have NB454_487 := nl BK454 hg; have NB487_454 := ng BK454 hg; replace BK454 := b_ BK454 hb; have NB469_487 := nl BK469 hg; have NB487_469 := ng BK469 hg; replace BK469 := b_ BK469 hb; clear hb hg; have hnb62 := NB487_454.out; have hnc62 := NB454_487.out; have hnb63 := NB487_469.out; have hnc63 := NB469_487.out; obtain ⟨z64_0, z64_1⟩ := ca2 BK487; obtain ⟨f64_0, f64_1⟩ := fa2 BK487; have p488 : 0 ≤ (x19_2 : Int) := of_decide_eq_true as_; have q488 : x19_2 < (t479.length : Int) := of_decide_eq_true as_; obtain ⟨ad488, e488, hx488_0, hx488_1⟩ := at_T37 (Kd.R_reads' HO_17.out).2.2 x19_2 p488 q488; obtain rfl : ad483 = ad488 := (by injection e488); have hn488_0 : ad483.block ≠ gb487 := Kd.own_blk (Kd.R_away HO_17.out (fun _ hk => hk.2)); have hn488_1 : ad483.block ≠ gb487 := Kd.own_blk (Kd.R_away HO_17.out (fun _ hk => hk.2)); replace hx488_0 := (cell_far (p := ⟨gb487, 0, none⟩) (ab hn488_0) (.int .i64 t484)).trans hx488_0; replace hx488_1 := (cell_far (p := ⟨gb487, 0, none⟩) (ab hn488_0) (.int .i64 t484)).trans hx488_1; replace hx488_0 := (cell_far (p := ⟨gb487, 1, none⟩) (ab hn488_1) (.int .i64 t485)).trans hx488_0; replace hx488_1 := (cell_far (p := ⟨gb487, 1, none⟩) (ab hn488_1) (.int .i64 t485)).trans hx488_1; clear hn488_0; clear hn488_1; replace p488 := eq_true p488; replace q488 := eq_true q488))
                    (try refine ap ?_)
                    have H := HU58.out
                    clear HU58
                    replace H := ilt H
                    rcases H with ⟨c65b0, H⟩ | ⟨c65b0, H⟩
                    · (first | rw [c65b0] | (simp only [i64_w, i32_w]; rw [c65b0]) | (simp only [c65b2, Bool.not_true, Bool.not_false]) | (simp only [c65b1, Bool.not_true, Bool.not_false]) | skip)
                      obtain rfl := Option.some.inj H
                      go_wp2
                      go_ret
                      exact ⟨rt, bw⟩
                    · (first | rw [c65b0] | (simp only [i64_w, i32_w]; rw [c65b0]) | (simp only [c65b2, Bool.not_true, Bool.not_false]) | (simp only [c65b1, Bool.not_true, Bool.not_false]) | skip)
                      have H' := Aside0.mk H
                      clear H
                      have p489 : 0 ≤ (x19_2 : Int) := of_decide_eq_true as_
                      have q489 : x19_2 < (t479.length : Int) := of_decide_eq_true as_
                      obtain ⟨ad489, e489, hx489_0, hx489_1⟩ := at_T37 (Kd.R_reads' HO_17.out).2.2 x19_2 p489 q489
                      obtain rfl : ad483 = ad489 := (by injection e489)
                      have hn489_0 : ad483.block ≠ gb487 := Kd.own_blk (Kd.R_away HO_17.out (fun _ hk => hk.2))
                      have hn489_1 : ad483.block ≠ gb487 := Kd.own_blk (Kd.R_away HO_17.out (fun _ hk => hk.2))
                      replace hx489_0 := (cell_far (p := ⟨gb487, 0, none⟩) (ab hn489_0) (.int .i64 t484)).trans hx489_0
                      replace hx489_1 := (cell_far (p := ⟨gb487, 0, none⟩) (ab hn489_0) (.int .i64 t484)).trans hx489_1
                      replace hx489_0 := (cell_far (p := ⟨gb487, 1, none⟩) (ab hn489_1) (.int .i64 t485)).trans hx489_0
                      replace hx489_1 := (cell_far (p := ⟨gb487, 1, none⟩) (ab hn489_1) (.int .i64 t485)).trans hx489_1
                      clear hn489_0
                      clear hn489_1
                      replace p489 := eq_true p489
                      replace q489 := eq_true q489
                      go_wp2
                      go_roundg k2
                      case measure => have := HJ7.out; have := HK2.out; omega
                      case rel => exact ⟨(wrap64 (x18_2 + ((rd_T37 t479 x19_2).f1))), (wrap64 (x19_2 + 1)), ev, ev, H', ⟨by have := HJ7.out; have := HK2.out; omega⟩, ⟨by (with_reducible repeat (first | apply Kd.R_alloc | apply Kd.R_drewN | apply Kd.R_drew)); exact Kd.R_mono (Kd.R_far (p := ⟨gb487, 1, none⟩) (Kd.R_far (p := ⟨gb487, 0, none⟩) (Kd.R_mono HO_3.out (fun k_ hk => (⟨hk, hk.2⟩ : _ ∧ k_ ≠ gb487))) (fun _ hk => hk.2) (.int .i64 t484)) (fun _ hk => hk.2) (.int .i64 t485)) (fun _ hk => ⟨hk.1.1.1, ⟨hk.1.1.2.1, ⟨hk.1.1.2.2.1, ⟨hk.1.1.2.2.2.1, hk.1.1.2.2.2.2⟩⟩⟩⟩)⟩, ⟨by (with_reducible repeat (first | apply Kd.R_alloc | apply Kd.R_drewN | apply Kd.R_drew)); exact Kd.R_mono (Kd.R_far (p := ⟨gb487, 1, none⟩) (Kd.R_far (p := ⟨gb487, 0, none⟩) (Kd.R_mono HO_8.out (fun k_ hk => (⟨hk, hk.2⟩ : _ ∧ k_ ≠ gb487))) (fun _ hk => hk.2) (.int .i64 t484)) (fun _ hk => hk.2) (.int .i64 t485)) (fun _ hk => ⟨hk.1.1.1, ⟨hk.1.1.2.1, ⟨hk.1.1.2.2.1, ⟨hk.1.1.2.2.2.1, hk.1.1.2.2.2.2⟩⟩⟩⟩)⟩, ⟨by (with_reducible repeat (first | apply Kd.R_alloc | apply Kd.R_drewN | apply Kd.R_drew)); exact Kd.R_mono (Kd.R_far (p := ⟨gb487, 1, none⟩) (Kd.R_far (p := ⟨gb487, 0, none⟩) (Kd.R_mono HO_12.out (fun k_ hk => (⟨hk, hk.2⟩ : _ ∧ k_ ≠ gb487))) (fun _ hk => hk.2) (.int .i64 t484)) (fun _ hk => hk.2) (.int .i64 t485)) (fun _ hk => ⟨hk.1.1.1, ⟨hk.1.1.2.1, ⟨hk.1.1.2.2.1, ⟨hk.1.1.2.2.2.1, hk.1.1.2.2.2.2⟩⟩⟩⟩)⟩, ⟨by (with_reducible repeat (first | apply Kd.R_alloc | apply Kd.R_drewN | apply Kd.R_drew)); exact Kd.R_mono (Kd.R_far (p := ⟨gb487, 1, none⟩) (Kd.R_far (p := ⟨gb487, 0, none⟩) (Kd.R_mono HO_17.out (fun k_ hk => (⟨hk, hk.2⟩ : _ ∧ k_ ≠ gb487))) (fun _ hk => hk.2) (.int .i64 t484)) (fun _ hk => hk.2) (.int .i64 t485)) (fun _ hk => ⟨hk.1.1.1, ⟨hk.1.1.2.1, ⟨hk.1.1.2.2.1, ⟨hk.1.1.2.2.2.1, hk.1.1.2.2.2.2⟩⟩⟩⟩)⟩, ⟨bk BK454⟩, ⟨bk BK469⟩, ⟨bw⟩⟩
                · rw [if_neg c49] at H
                  exact absurd H (by simp)
              · replace H := ib H
                rcases H with ⟨rfl, H⟩ | ⟨rfl, H⟩
                · by_cases c67 : (t466 == t452 && (t467 == t453)) = true
                  · rw [if_pos c67] at H
                    have c67b0 : (t466 == t452 && (t467 == t453)) = true := c67
                    (try (have c67b1 : decide (t466 = t452 && (t467 == t453)) = true := by simpa using c67))
                    (try (have c67b2 : (t466 == t452 && (t467 == t453)) = true := by simpa using c67))
                    clear c67
                    replace H := ib H
                    rcases H with ⟨rfl, H⟩ | ⟨rfl, H⟩
                    · replace H := ieq H
                      rcases H with ⟨c69b0, c69b1, H⟩ | ⟨c69, c69b0, c69b1, H⟩
                      · replace H := bn H
                        obtain ⟨t490, A70, H⟩ := H
                        try dsimp only at H
                        replace H := ib H
                        rcases H with ⟨rfl, H⟩ | ⟨rfl, H⟩
                        · replace H := ib H
                          rcases H with ⟨rfl, H⟩ | ⟨rfl, H⟩
                          · obtain rfl := Option.some.inj H
                            obtain ⟨Ao73, co73, eo73⟩ := Kd.R_slice HO_17.out
                            subst eo73
                            try go_wp2
                            replace HO_3 := Aside0.mk (Kd.R_drew HO_3.out)
                            replace HO_8 := Aside0.mk (Kd.R_drew HO_8.out)
                            replace HO_12 := Aside0.mk (Kd.R_drew HO_12.out)
                            replace HO_17 := Aside0.mk (Kd.R_drew HO_17.out)
                            replace BK454 := bd BK454
                            replace BK469 := bd BK469
                            replace HB := hd HB
                            obtain ⟨Ao75, co75, eo75⟩ := Kd.R_slice HO_12.out
                            (first | subst eo75 | (injection eo75 with f1_ f2_ f3_; have f4_ := f1_.symm; have f5_ := f3_.symm; clear f1_ f2_ f3_; subst f4_; subst f5_))
                            refine st 42 (fun w' => CA w' gb469 0 [.int .i64 t466, .int .i64 t467] ∧ CA w' gb454 0 [.int .i64 t452, .int .i64 t453]) [] ⟨cx BK469, cx BK454⟩ laws_FnLive.tab20 laws_FnLive.bits20 ?_; intro hHeld HT_ HW_
                            generalize wr.drew = w74 at HO_3 HO_8 HO_12 HO_17 BK454 BK469 HB hHeld ⊢
                            refine pu 0 133 (bl 42 1) ?_
                            refine pu 1 134 (bl 42 3) ?_
                            refine tk 2 135 (bl 42 7) ?_
                            refine tk 3 136 (bl 42 15) ?_
                            refine pu 4 137 (bl 42 31) ?_
                            refine pu 5 138 (bl 42 63) ?_
                            refine pu 6 139 (bl 42 127) ?_
                            refine pu 7 140 (bl 42 255) ?_
                            refine pu 8 141 (bl 42 511) ?_
                            refine pu 9 142 (bl 42 1023) ?_
                            refine pu 10 143 (bl 42 2047) ?_
                            refine pu 11 144 (bl 42 4095) ?_
                            refine tk 12 145 (bl 42 8191) ?_
                            refine pu 13 146 (bl 42 16383) ?_
                            refine pu 14 147 (bl 42 32767) ?_
                            refine pu 15 148 (bl 42 65535) ?_
                            refine pu 16 149 (bl 42 131071) ?_
                            refine pu 17 150 (bl 42 262143) ?_
                            refine on_ 18 (some 151) (bl 42 524287) (fun K hK => ?_)
                            refine gq Try.func14 (laws_sameLive.calls _ Ao75 co75 _ Ao12 co12 _ _ _ (cr HO_12) ((Kd.R_reads' HO_12.out).2.1) (cr HO_3) ((Kd.R_reads' HO_3.out).2.1) A70.out) ?_
                            rintro e w' ⟨rfl, ⟨nd, rfl⟩⟩
                            refine ⟨_, rfl, ?_⟩
                            refine hK.out _ _ ⟨cx BK469, cx BK454⟩ (fun hHeld => ?_)
                            clear hK K
                            refine nm ?_
                            refine pu 19 152 (bl 42 1048575) ?_
                            refine pu 20 153 (bl 42 2097151) ?_
                            refine pu 21 154 (bl 42 4194303) ?_
                            refine pu 22 155 (bl 42 8388607) ?_
                            refine pu 23 156 (bl 42 16777215) ?_
                            refine pu 24 157 (bl 42 33554431) ?_
                            refine pf 25 158 (bl 42 67108863) ?_
                            refine pf 26 159 (bl 42 134217727) ?_
                            refine pf 27 160 (bl 42 268435455) ?_
                            refine pu 28 161 (bl 42 536870911) ?_
                            refine pu 29 162 (bl 42 1073741823) ?_
                            refine pf 30 163 (bl 42 2147483647) ?_
                            refine pf 31 164 (bl 42 4294967295) ?_
                            refine pf 32 165 (bl 42 8589934591) ?_
                            refine pf 33 166 (bl 42 17179869183) ?_
                            refine pf 34 167 (bl 42 34359738367) ?_
                            refine pf 35 168 (bl 42 68719476735) ?_
                            refine pf 36 169 (bl 42 137438953471) ?_
                            refine pf 37 170 (bl 42 274877906943) ?_
                            refine pf 38 171 (bl 42 549755813887) ?_
                            refine pf 39 172 (bl 42 1099511627775) ?_
                            refine pu 40 173 (bl 42 2199023255551) ?_
                            refine pu 41 2 (bl 42 4398046511103) ?_
                            refine dn ?_ _
                            try go_wp2
                            go_ret
                            exact ⟨rt, bw⟩
                          · replace H := ieq H
                            rcases H with ⟨c76b0, c76b1, H⟩ | ⟨c76, c76b0, c76b1, H⟩
                            · replace H := bn H
                              obtain ⟨t491, A77, H⟩ := H
                              try dsimp only at H
                              replace H := bn H
                              obtain ⟨t492, A78, H⟩ := H
                              try dsimp only at H
                              obtain rfl := Option.some.inj H
                              obtain ⟨Ao79, co79, eo79⟩ := Kd.R_slice HO_17.out
                              subst eo79
                              try go_wp2
                              replace HO_3 := Aside0.mk (Kd.R_drew HO_3.out)
                              replace HO_8 := Aside0.mk (Kd.R_drew HO_8.out)
                              replace HO_12 := Aside0.mk (Kd.R_drew HO_12.out)
                              replace HO_17 := Aside0.mk (Kd.R_drew HO_17.out)
                              replace BK454 := bd BK454
                              replace BK469 := bd BK469
                              replace HB := hd HB
                              obtain ⟨Ao81, co81, eo81⟩ := Kd.R_slice HO_12.out
                              (first | subst eo81 | (injection eo81 with f1_ f2_ f3_; have f4_ := f1_.symm; have f5_ := f3_.symm; clear f1_ f2_ f3_; subst f4_; subst f5_))
                              refine st 42 (fun w' => CA w' gb469 0 [.int .i64 t466, .int .i64 t467] ∧ CA w' gb454 0 [.int .i64 t452, .int .i64 t453]) [] ⟨cx BK469, cx BK454⟩ laws_FnLive.tab20 laws_FnLive.bits20 ?_; intro hHeld HT_ HW_
                              generalize wr.drew = w80 at HO_3 HO_8 HO_12 HO_17 BK454 BK469 HB hHeld ⊢
                              refine pu 0 133 (bl 42 1) ?_
                              refine pu 1 134 (bl 42 3) ?_
                              refine tk 2 135 (bl 42 7) ?_
                              refine tk 3 136 (bl 42 15) ?_
                              refine pu 4 137 (bl 42 31) ?_
                              refine pu 5 138 (bl 42 63) ?_
                              refine pu 6 139 (bl 42 127) ?_
                              refine pu 7 140 (bl 42 255) ?_
                              refine pu 8 141 (bl 42 511) ?_
                              refine pu 9 142 (bl 42 1023) ?_
                              refine pu 10 143 (bl 42 2047) ?_
                              refine pu 11 144 (bl 42 4095) ?_
                              refine tk 12 145 (bl 42 8191) ?_
                              refine pu 13 146 (bl 42 16383) ?_
                              refine pu 14 147 (bl 42 32767) ?_
                              refine pu 15 148 (bl 42 65535) ?_
                              refine pu 16 149 (bl 42 131071) ?_
                              refine pu 17 150 (bl 42 262143) ?_
                              refine on_ 18 (some 151) (bl 42 524287) (fun K hK => ?_)
                              refine gq Try.func14 (laws_sameLive.calls _ Ao81 co81 _ Ao12 co12 _ _ _ (cr HO_12) ((Kd.R_reads' HO_12.out).2.1) (cr HO_3) ((Kd.R_reads' HO_3.out).2.1) A70.out) ?_
                              rintro e w' ⟨rfl, ⟨nd, rfl⟩⟩
                              refine ⟨_, rfl, ?_⟩
                              refine hK.out _ _ ⟨cx BK469, cx BK454⟩ (fun hHeld => ?_)
                              clear hK K
                              refine nm ?_
                              refine pu 19 152 (bl 42 1048575) ?_
                              refine pu 20 153 (bl 42 2097151) ?_
                              refine pu 21 154 (bl 42 4194303) ?_
                              refine pu 22 155 (bl 42 8388607) ?_
                              refine pu 23 156 (bl 42 16777215) ?_
                              refine pu 24 157 (bl 42 33554431) ?_
                              refine pu 25 158 (bl 42 67108863) ?_
                              refine pu 26 159 (bl 42 134217727) ?_
                              refine pu 27 160 (bl 42 268435455) ?_
                              refine pu 28 161 (bl 42 536870911) ?_
                              refine pu 29 162 (bl 42 1073741823) ?_
                              refine pu 30 163 (bl 42 2147483647) ?_
                              refine pu 31 164 (bl 42 4294967295) ?_
                              refine pu 33 166 (bl 42 12884901887) ?_
                              refine pu 34 167 (bl 42 30064771071) ?_
                              refine pu 36 169 (bl 42 98784247807) ?_
                              refine tk 37 170 (bl 42 236223201279) ?_
                              refine on_ 32 (some 165) (bl 42 240518168575) (fun K hK => ?_)
                              refine gq Try.func19 (impl_LiveSum.calls _ Ao34 co34 _ _ _ _ (cr HO_8) ((Kd.R_reads' HO_8.out).2.1) A77.out) ?_
                              rintro e w82 ⟨rfl, hb⟩
                              refine ⟨_, rfl, ?_⟩
                              replace HO_3 := Aside0.mk (Kd.R_below (ro HO_3) hb)
                              replace HO_8 := Aside0.mk (Kd.R_below (ro HO_8) hb)
                              replace HO_12 := Aside0.mk (Kd.R_below (ro HO_12) hb)
                              replace HO_17 := Aside0.mk (Kd.R_below (ro HO_17) hb)
                              replace BK454 := b_ BK454 hb
                              replace BK469 := b_ BK469 hb
                              replace HB := hs hb
                              (try clear hb)
                              (try clear hb2)
                              (try clear hk)
                              (try clear hi)
                              refine hK.out _ _ ⟨cx BK469, cx BK454⟩ (fun hHeld => ?_)
                              clear hK K
                              refine nm ?_
                              refine on_ 35 (some 168) (bl 42 274877906943) (fun K hK => ?_)
                              refine gq Try.func20 (spec_LiveSum.calls _ Ao12 co12 _ _ _ _ (cr HO_3) ((Kd.R_reads' HO_3.out).2.1) A78.out) ?_
                              rintro e w83 ⟨rfl, hb⟩
                              refine ⟨_, rfl, ?_⟩
                              replace HO_3 := Aside0.mk (Kd.R_below (ro HO_3) hb)
                              replace HO_8 := Aside0.mk (Kd.R_below (ro HO_8) hb)
                              replace HO_12 := Aside0.mk (Kd.R_below (ro HO_12) hb)
                              replace HO_17 := Aside0.mk (Kd.R_below (ro HO_17) hb)
                              replace BK454 := b_ BK454 hb
                              replace BK469 := b_ BK469 hb
                              replace HB := hs hb
                              (try clear hb)
                              (try clear hb2)
                              (try clear hk)
                              (try clear hi)
                              refine hK.out _ _ ⟨cx BK469, cx BK454⟩ (fun hHeld => ?_)
                              clear hK K
                              refine nm ?_
                              refine pu 38 171 (bl 42 549755813887) ?_
                              refine pu 39 172 (bl 42 1099511627775) ?_
                              refine pu 40 173 (bl 42 2199023255551) ?_
                              refine pu 41 2 (bl 42 4398046511103) ?_
                              refine dn ?_ _
                              try go_wp2
                              go_ret
                              exact ⟨rt, bw⟩
                            · obtain rfl := Option.some.inj H
                              obtain ⟨Ao84, co84, eo84⟩ := Kd.R_slice HO_17.out
                              subst eo84
                              try go_wp2
                              replace HO_3 := Aside0.mk (Kd.R_drew HO_3.out)
                              replace HO_8 := Aside0.mk (Kd.R_drew HO_8.out)
                              replace HO_12 := Aside0.mk (Kd.R_drew HO_12.out)
                              replace HO_17 := Aside0.mk (Kd.R_drew HO_17.out)
                              replace BK454 := bd BK454
                              replace BK469 := bd BK469
                              replace HB := hd HB
                              obtain ⟨Ao86, co86, eo86⟩ := Kd.R_slice HO_12.out
                              (first | subst eo86 | (injection eo86 with f1_ f2_ f3_; have f4_ := f1_.symm; have f5_ := f3_.symm; clear f1_ f2_ f3_; subst f4_; subst f5_))
                              refine st 42 (fun w' => CA w' gb469 0 [.int .i64 t466, .int .i64 t467] ∧ CA w' gb454 0 [.int .i64 t452, .int .i64 t453]) [] ⟨cx BK469, cx BK454⟩ laws_FnLive.tab20 laws_FnLive.bits20 ?_; intro hHeld HT_ HW_
                              generalize wr.drew = w85 at HO_3 HO_8 HO_12 HO_17 BK454 BK469 HB hHeld ⊢
                              refine pu 0 133 (bl 42 1) ?_
                              refine pu 1 134 (bl 42 3) ?_
                              refine tk 2 135 (bl 42 7) ?_
                              refine tk 3 136 (bl 42 15) ?_
                              refine pu 4 137 (bl 42 31) ?_
                              refine pu 5 138 (bl 42 63) ?_
                              refine pu 6 139 (bl 42 127) ?_
                              refine pu 7 140 (bl 42 255) ?_
                              refine pu 8 141 (bl 42 511) ?_
                              refine pu 9 142 (bl 42 1023) ?_
                              refine pu 10 143 (bl 42 2047) ?_
                              refine pu 11 144 (bl 42 4095) ?_
                              refine tk 12 145 (bl 42 8191) ?_
                              refine pu 13 146 (bl 42 16383) ?_
                              refine pu 14 147 (bl 42 32767) ?_
                              refine pu 15 148 (bl 42 65535) ?_
                              refine pu 16 149 (bl 42 131071) ?_
                              refine pu 17 150 (bl 42 262143) ?_
                              refine on_ 18 (some 151) (bl 42 524287) (fun K hK => ?_)
                              refine gq Try.func14 (laws_sameLive.calls _ Ao86 co86 _ Ao12 co12 _ _ _ (cr HO_12) ((Kd.R_reads' HO_12.out).2.1) (cr HO_3) ((Kd.R_reads' HO_3.out).2.1) A70.out) ?_
                              rintro e w' ⟨rfl, ⟨nd, rfl⟩⟩
                              refine ⟨_, rfl, ?_⟩
                              refine hK.out _ _ ⟨cx BK469, cx BK454⟩ (fun hHeld => ?_)
                              clear hK K
                              refine nm ?_
                              refine pu 19 152 (bl 42 1048575) ?_
                              refine pu 20 153 (bl 42 2097151) ?_
                              refine pu 21 154 (bl 42 4194303) ?_
                              refine pu 22 155 (bl 42 8388607) ?_
                              refine pu 23 156 (bl 42 16777215) ?_
                              refine pu 24 157 (bl 42 33554431) ?_
                              refine pu 25 158 (bl 42 67108863) ?_
                              refine pu 26 159 (bl 42 134217727) ?_
                              refine pu 27 160 (bl 42 268435455) ?_
                              refine pu 28 161 (bl 42 536870911) ?_
                              refine pu 29 162 (bl 42 1073741823) ?_
                              refine pf 30 163 (bl 42 2147483647) ?_
                              refine pf 31 164 (bl 42 4294967295) ?_
                              refine pf 32 165 (bl 42 8589934591) ?_
                              refine pf 33 166 (bl 42 17179869183) ?_
                              refine pf 34 167 (bl 42 34359738367) ?_
                              refine pf 35 168 (bl 42 68719476735) ?_
                              refine pf 36 169 (bl 42 137438953471) ?_
                              refine pf 37 170 (bl 42 274877906943) ?_
                              refine pf 38 171 (bl 42 549755813887) ?_
                              refine pf 39 172 (bl 42 1099511627775) ?_
                              refine pu 40 173 (bl 42 2199023255551) ?_
                              refine pu 41 2 (bl 42 4398046511103) ?_
                              refine dn ?_ _
                              try go_wp2
                              go_ret
                              exact ⟨rt, bw⟩
                        · obtain rfl := Option.some.inj H
                          obtain ⟨Ao87, co87, eo87⟩ := Kd.R_slice HO_17.out
                          subst eo87
                          try go_wp2
                          replace HO_3 := Aside0.mk (Kd.R_drew HO_3.out)
                          replace HO_8 := Aside0.mk (Kd.R_drew HO_8.out)
                          replace HO_12 := Aside0.mk (Kd.R_drew HO_12.out)
                          replace HO_17 := Aside0.mk (Kd.R_drew HO_17.out)
                          replace BK454 := bd BK454
                          replace BK469 := bd BK469
                          replace HB := hd HB
                          obtain ⟨Ao89, co89, eo89⟩ := Kd.R_slice HO_12.out
                          (first | subst eo89 | (injection eo89 with f1_ f2_ f3_; have f4_ := f1_.symm; have f5_ := f3_.symm; clear f1_ f2_ f3_; subst f4_; subst f5_))
                          refine st 42 (fun w' => CA w' gb469 0 [.int .i64 t466, .int .i64 t467] ∧ CA w' gb454 0 [.int .i64 t452, .int .i64 t453]) [] ⟨cx BK469, cx BK454⟩ laws_FnLive.tab20 laws_FnLive.bits20 ?_; intro hHeld HT_ HW_
                          generalize wr.drew = w88 at HO_3 HO_8 HO_12 HO_17 BK454 BK469 HB hHeld ⊢
                          refine pu 0 133 (bl 42 1) ?_
                          refine pu 1 134 (bl 42 3) ?_
                          refine tk 2 135 (bl 42 7) ?_
                          refine tk 3 136 (bl 42 15) ?_
                          refine pu 4 137 (bl 42 31) ?_
                          refine pu 5 138 (bl 42 63) ?_
                          refine pu 6 139 (bl 42 127) ?_
                          refine pu 7 140 (bl 42 255) ?_
                          refine pu 8 141 (bl 42 511) ?_
                          refine pu 9 142 (bl 42 1023) ?_
                          refine pu 10 143 (bl 42 2047) ?_
                          refine pu 11 144 (bl 42 4095) ?_
                          refine tk 12 145 (bl 42 8191) ?_
                          refine pu 13 146 (bl 42 16383) ?_
                          refine pu 14 147 (bl 42 32767) ?_
                          refine pu 15 148 (bl 42 65535) ?_
                          refine pu 16 149 (bl 42 131071) ?_
                          refine pu 17 150 (bl 42 262143) ?_
                          refine on_ 18 (some 151) (bl 42 524287) (fun K hK => ?_)
                          refine gq Try.func14 (laws_sameLive.calls _ Ao89 co89 _ Ao12 co12 _ _ _ (cr HO_12) ((Kd.R_reads' HO_12.out).2.1) (cr HO_3) ((Kd.R_reads' HO_3.out).2.1) A70.out) ?_
                          rintro e w' ⟨rfl, ⟨nd, rfl⟩⟩
                          refine ⟨_, rfl, ?_⟩
                          refine hK.out _ _ ⟨cx BK469, cx BK454⟩ (fun hHeld => ?_)
                          clear hK K
                          refine nm ?_
                          refine pu 19 152 (bl 42 1048575) ?_
                          refine pu 20 153 (bl 42 2097151) ?_
                          refine pf 21 154 (bl 42 4194303) ?_
                          refine pf 22 155 (bl 42 8388607) ?_
                          refine pu 23 156 (bl 42 16777215) ?_
                          refine pu 24 157 (bl 42 33554431) ?_
                          refine pf 25 158 (bl 42 67108863) ?_
                          refine pf 26 159 (bl 42 134217727) ?_
                          refine pf 27 160 (bl 42 268435455) ?_
                          refine pu 28 161 (bl 42 536870911) ?_
                          refine pu 29 162 (bl 42 1073741823) ?_
                          refine pf 30 163 (bl 42 2147483647) ?_
                          refine pf 31 164 (bl 42 4294967295) ?_
                          refine pf 32 165 (bl 42 8589934591) ?_
                          refine pf 33 166 (bl 42 17179869183) ?_
                          refine pf 34 167 (bl 42 34359738367) ?_
                          refine pf 35 168 (bl 42 68719476735) ?_
                          refine pf 36 169 (bl 42 137438953471) ?_
                          refine pf 37 170 (bl 42 274877906943) ?_
                          refine pf 38 171 (bl 42 549755813887) ?_
                          refine pf 39 172 (bl 42 1099511627775) ?_
                          refine pu 40 173 (bl 42 2199023255551) ?_
                          refine pu 41 2 (bl 42 4398046511103) ?_
                          refine dn ?_ _
                          try go_wp2
                          go_ret
                          exact ⟨rt, bw⟩
                      · obtain rfl := Option.some.inj H
                        obtain ⟨Ao90, co90, eo90⟩ := Kd.R_slice HO_17.out
                        subst eo90
                        try go_wp2
                        replace HO_3 := Aside0.mk (Kd.R_drew HO_3.out)
                        replace HO_8 := Aside0.mk (Kd.R_drew HO_8.out)
                        replace HO_12 := Aside0.mk (Kd.R_drew HO_12.out)
                        replace HO_17 := Aside0.mk (Kd.R_drew HO_17.out)
                        replace BK454 := bd BK454
                        replace BK469 := bd BK469
                        replace HB := hd HB
                        refine st 42 (fun w' => CA w' gb469 0 [.int .i64 t466, .int .i64 t467] ∧ CA w' gb454 0 [.int .i64 t452, .int .i64 t453]) [] ⟨cx BK469, cx BK454⟩ laws_FnLive.tab20 laws_FnLive.bits20 ?_; intro hHeld HT_ HW_
                        generalize wr.drew = w91 at HO_3 HO_8 HO_12 HO_17 BK454 BK469 HB hHeld ⊢
                        refine pu 0 133 (bl 42 1) ?_
                        refine pu 1 134 (bl 42 3) ?_
                        refine tk 2 135 (bl 42 7) ?_
                        refine tk 3 136 (bl 42 15) ?_
                        refine pu 4 137 (bl 42 31) ?_
                        refine pu 5 138 (bl 42 63) ?_
                        refine pu 6 139 (bl 42 127) ?_
                        refine pu 7 140 (bl 42 255) ?_
                        refine pu 8 141 (bl 42 511) ?_
                        refine pu 9 142 (bl 42 1023) ?_
                        refine pu 10 143 (bl 42 2047) ?_
                        refine pu 11 144 (bl 42 4095) ?_
                        refine tk 12 145 (bl 42 8191) ?_
                        refine pu 13 146 (bl 42 16383) ?_
                        refine pu 14 147 (bl 42 32767) ?_
                        refine pu 15 148 (bl 42 65535) ?_
                        refine pf 16 149 (bl 42 131071) ?_
                        refine pf 17 150 (bl 42 262143) ?_
                        refine pf 18 151 (bl 42 524287) ?_
                        refine pu 19 152 (bl 42 1048575) ?_
                        refine pu 20 153 (bl 42 2097151) ?_
                        refine pf 21 154 (bl 42 4194303) ?_
                        refine pf 22 155 (bl 42 8388607) ?_
                        refine pu 23 156 (bl 42 16777215) ?_
                        refine pu 24 157 (bl 42 33554431) ?_
                        refine pf 25 158 (bl 42 67108863) ?_
                        refine pf 26 159 (bl 42 134217727) ?_
                        refine pf 27 160 (bl 42 268435455) ?_
                        refine pu 28 161 (bl 42 536870911) ?_
                        refine pu 29 162 (bl 42 1073741823) ?_
                        refine pf 30 163 (bl 42 2147483647) ?_
                        refine pf 31 164 (bl 42 4294967295) ?_
                        refine pf 32 165 (bl 42 8589934591) ?_
                        refine pf 33 166 (bl 42 17179869183) ?_
                        refine pf 34 167 (bl 42 34359738367) ?_
                        refine pf 35 168 (bl 42 68719476735) ?_
                        refine pf 36 169 (bl 42 137438953471) ?_
                        refine pf 37 170 (bl 42 274877906943) ?_
                        refine pf 38 171 (bl 42 549755813887) ?_
                        refine pf 39 172 (bl 42 1099511627775) ?_
                        refine pu 40 173 (bl 42 2199023255551) ?_
                        refine pu 41 2 (bl 42 4398046511103) ?_
                        refine dn ?_ _
                        try go_wp2
                        go_ret
                        exact ⟨rt, bw⟩
                    · obtain rfl := Option.some.inj H
                      obtain ⟨Ao92, co92, eo92⟩ := Kd.R_slice HO_17.out
                      subst eo92
                      try go_wp2
                      replace HO_3 := Aside0.mk (Kd.R_drew HO_3.out)
                      replace HO_8 := Aside0.mk (Kd.R_drew HO_8.out)
                      replace HO_12 := Aside0.mk (Kd.R_drew HO_12.out)
                      replace HO_17 := Aside0.mk (Kd.R_drew HO_17.out)
                      replace BK454 := bd BK454
                      replace BK469 := bd BK469
                      replace HB := hd HB
                      refine st 42 (fun w' => CA w' gb469 0 [.int .i64 t466, .int .i64 t467] ∧ CA w' gb454 0 [.int .i64 t452, .int .i64 t453]) [] ⟨cx BK469, cx BK454⟩ laws_FnLive.tab20 laws_FnLive.bits20 ?_; intro hHeld HT_ HW_
                      generalize wr.drew = w93 at HO_3 HO_8 HO_12 HO_17 BK454 BK469 HB hHeld ⊢
                      refine pu 0 133 (bl 42 1) ?_
                      refine pu 1 134 (bl 42 3) ?_
                      refine tk 2 135 (bl 42 7) ?_
                      refine tk 3 136 (bl 42 15) ?_
                      refine pu 4 137 (bl 42 31) ?_
                      refine pu 5 138 (bl 42 63) ?_
                      refine pu 6 139 (bl 42 127) ?_
                      refine pu 7 140 (bl 42 255) ?_
                      refine pu 8 141 (bl 42 511) ?_
                      refine pu 9 142 (bl 42 1023) ?_
                      refine pf 10 143 (bl 42 2047) ?_
                      refine pf 11 144 (bl 42 4095) ?_
                      refine pf 12 145 (bl 42 8191) ?_
                      refine pf 13 146 (bl 42 16383) ?_
                      refine pu 14 147 (bl 42 32767) ?_
                      refine pu 15 148 (bl 42 65535) ?_
                      refine pf 16 149 (bl 42 131071) ?_
                      refine pf 17 150 (bl 42 262143) ?_
                      refine pf 18 151 (bl 42 524287) ?_
                      refine pu 19 152 (bl 42 1048575) ?_
                      refine pu 20 153 (bl 42 2097151) ?_
                      refine pf 21 154 (bl 42 4194303) ?_
                      refine pf 22 155 (bl 42 8388607) ?_
                      refine pu 23 156 (bl 42 16777215) ?_
                      refine pu 24 157 (bl 42 33554431) ?_
                      refine pf 25 158 (bl 42 67108863) ?_
                      refine pf 26 159 (bl 42 134217727) ?_
                      refine pf 27 160 (bl 42 268435455) ?_
                      refine pu 28 161 (bl 42 536870911) ?_
                      refine pu 29 162 (bl 42 1073741823) ?_
                      refine pf 30 163 (bl 42 2147483647) ?_
                      refine pf 31 164 (bl 42 4294967295) ?_
                      refine pf 32 165 (bl 42 8589934591) ?_
                      refine pf 33 166 (bl 42 17179869183) ?_
                      refine pf 34 167 (bl 42 34359738367) ?_
                      refine pf 35 168 (bl 42 68719476735) ?_
                      refine pf 36 169 (bl 42 137438953471) ?_
                      refine pf 37 170 (bl 42 274877906943) ?_
                      refine pf 38 171 (bl 42 549755813887) ?_
                      refine pf 39 172 (bl 42 1099511627775) ?_
                      refine pu 40 173 (bl 42 2199023255551) ?_
                      refine pu 41 2 (bl 42 4398046511103) ?_
                      refine dn ?_ _
                      try go_wp2
                      go_ret
                      exact ⟨rt, bw⟩
                  · rw [if_neg c67] at H
                    have c67b0 : (t466 == t452 && (t467 == t453)) = false := by simpa using c67
                    (try (have c67b1 : decide (t466 = t452 && (t467 == t453)) = false := by simpa using c67))
                    (try (have c67b2 : (t466 == t452 && (t467 == t453)) = false := by simpa using c67))
                    (try (have c67b3 : ¬ (t466 = t452 && (t467 == t453)) := by simpa using c67))
                    clear c67
                    obtain rfl := Option.some.inj H
                    obtain ⟨Ao94, co94, eo94⟩ := Kd.R_slice HO_17.out
                    subst eo94
                    try go_wp2
                    replace HO_3 := Aside0.mk (Kd.R_drew HO_3.out)
                    replace HO_8 := Aside0.mk (Kd.R_drew HO_8.out)
                    replace HO_12 := Aside0.mk (Kd.R_drew HO_12.out)
                    replace HO_17 := Aside0.mk (Kd.R_drew HO_17.out)
                    replace BK454 := bd BK454
                    replace BK469 := bd BK469
                    replace HB := hd HB
                    refine st 42 (fun w' => CA w' gb469 0 [.int .i64 t466, .int .i64 t467] ∧ CA w' gb454 0 [.int .i64 t452, .int .i64 t453]) [] ⟨cx BK469, cx BK454⟩ laws_FnLive.tab20 laws_FnLive.bits20 ?_; intro hHeld HT_ HW_
                    generalize wr.drew = w95 at HO_3 HO_8 HO_12 HO_17 BK454 BK469 HB hHeld ⊢
                    refine pu 0 133 (bl 42 1) ?_
                    refine pu 1 134 (bl 42 3) ?_
                    refine tk 2 135 (bl 42 7) ?_
                    refine tk 3 136 (bl 42 15) ?_
                    refine pu 4 137 (bl 42 31) ?_
                    refine pu 5 138 (bl 42 63) ?_
                    refine pu 6 139 (bl 42 127) ?_
                    refine pf 7 140 (bl 42 255) ?_
                    refine pu 8 141 (bl 42 511) ?_
                    refine pu 9 142 (bl 42 1023) ?_
                    refine pf 10 143 (bl 42 2047) ?_
                    refine pf 11 144 (bl 42 4095) ?_
                    refine pf 12 145 (bl 42 8191) ?_
                    refine pf 13 146 (bl 42 16383) ?_
                    refine pu 14 147 (bl 42 32767) ?_
                    refine pu 15 148 (bl 42 65535) ?_
                    refine pf 16 149 (bl 42 131071) ?_
                    refine pf 17 150 (bl 42 262143) ?_
                    refine pf 18 151 (bl 42 524287) ?_
                    refine pu 19 152 (bl 42 1048575) ?_
                    refine pu 20 153 (bl 42 2097151) ?_
                    refine pf 21 154 (bl 42 4194303) ?_
                    refine pf 22 155 (bl 42 8388607) ?_
                    refine pu 23 156 (bl 42 16777215) ?_
                    refine pu 24 157 (bl 42 33554431) ?_
                    refine pf 25 158 (bl 42 67108863) ?_
                    refine pf 26 159 (bl 42 134217727) ?_
                    refine pf 27 160 (bl 42 268435455) ?_
                    refine pu 28 161 (bl 42 536870911) ?_
                    refine pu 29 162 (bl 42 1073741823) ?_
                    refine pf 30 163 (bl 42 2147483647) ?_
                    refine pf 31 164 (bl 42 4294967295) ?_
                    refine pf 32 165 (bl 42 8589934591) ?_
                    refine pf 33 166 (bl 42 17179869183) ?_
                    refine pf 34 167 (bl 42 34359738367) ?_
                    refine pf 35 168 (bl 42 68719476735) ?_
                    refine pf 36 169 (bl 42 137438953471) ?_
                    refine pf 37 170 (bl 42 274877906943) ?_
                    refine pf 38 171 (bl 42 549755813887) ?_
                    refine pf 39 172 (bl 42 1099511627775) ?_
                    refine pu 40 173 (bl 42 2199023255551) ?_
                    refine pu 41 2 (bl 42 4398046511103) ?_
                    refine dn ?_ _
                    try go_wp2
                    go_ret
                    exact ⟨rt, bw⟩
                · obtain rfl := Option.some.inj H
                  obtain ⟨Ao96, co96, eo96⟩ := Kd.R_slice HO_17.out
                  subst eo96
                  try go_wp2
                  replace HO_3 := Aside0.mk (Kd.R_drew HO_3.out)
                  replace HO_8 := Aside0.mk (Kd.R_drew HO_8.out)
                  replace HO_12 := Aside0.mk (Kd.R_drew HO_12.out)
                  replace HO_17 := Aside0.mk (Kd.R_drew HO_17.out)
                  replace BK454 := bd BK454
                  replace BK469 := bd BK469
                  replace HB := hd HB
                  refine st 42 (fun w' => True) [] (trivial) laws_FnLive.tab20 laws_FnLive.bits20 ?_; intro hHeld HT_ HW_
                  generalize wr.drew = w97 at HO_3 HO_8 HO_12 HO_17 BK454 BK469 HB hHeld ⊢
                  refine pu 0 133 (bl 42 1) ?_
                  refine pu 1 134 (bl 42 3) ?_
                  refine pf 2 135 (bl 42 7) ?_
                  refine pf 3 136 (bl 42 15) ?_
                  refine pf 4 137 (bl 42 31) ?_
                  refine pu 5 138 (bl 42 63) ?_
                  refine pu 6 139 (bl 42 127) ?_
                  refine pf 7 140 (bl 42 255) ?_
                  refine pu 8 141 (bl 42 511) ?_
                  refine pu 9 142 (bl 42 1023) ?_
                  refine pf 10 143 (bl 42 2047) ?_
                  refine pf 11 144 (bl 42 4095) ?_
                  refine pf 12 145 (bl 42 8191) ?_
                  refine pf 13 146 (bl 42 16383) ?_
                  refine pu 14 147 (bl 42 32767) ?_
                  refine pu 15 148 (bl 42 65535) ?_
                  refine pf 16 149 (bl 42 131071) ?_
                  refine pf 17 150 (bl 42 262143) ?_
                  refine pf 18 151 (bl 42 524287) ?_
                  refine pu 19 152 (bl 42 1048575) ?_
                  refine pu 20 153 (bl 42 2097151) ?_
                  refine pf 21 154 (bl 42 4194303) ?_
                  refine pf 22 155 (bl 42 8388607) ?_
                  refine pu 23 156 (bl 42 16777215) ?_
                  refine pu 24 157 (bl 42 33554431) ?_
                  refine pf 25 158 (bl 42 67108863) ?_
                  refine pf 26 159 (bl 42 134217727) ?_
                  refine pf 27 160 (bl 42 268435455) ?_
                  refine pu 28 161 (bl 42 536870911) ?_
                  refine pu 29 162 (bl 42 1073741823) ?_
                  refine pf 30 163 (bl 42 2147483647) ?_
                  refine pf 31 164 (bl 42 4294967295) ?_
                  refine pf 32 165 (bl 42 8589934591) ?_
                  refine pf 33 166 (bl 42 17179869183) ?_
                  refine pf 34 167 (bl 42 34359738367) ?_
                  refine pf 35 168 (bl 42 68719476735) ?_
                  refine pf 36 169 (bl 42 137438953471) ?_
                  refine pf 37 170 (bl 42 274877906943) ?_
                  refine pf 38 171 (bl 42 549755813887) ?_
                  refine pf 39 172 (bl 42 1099511627775) ?_
                  refine pu 40 173 (bl 42 2199023255551) ?_
                  refine pu 41 2 (bl 42 4398046511103) ?_
                  refine dn ?_ _
                  try go_wp2
                  go_ret
                  exact ⟨rt, bw⟩

/-- THE ONE PURE STATEMENT of laws_FnLive: yours. -/
def laws_FnLive.Pure : Prop := ∀ (l0 : List Int), l0.length ≤ maxLen → l0.length * 1 ≤ 140737488351232 → (∀ x ∈ l0, (Lit.int .u8 x).wf = true) → ∃ k, laws_FnLive.f k l0 = some true
theorem laws_FnLive.walk (P : laws_FnLive.Pure) (a0 : Option Addr) (len0 cap0 : Nat) (z0 : List Int) (w : World) (w0 : (a0 = none ∧ len0 = 0 ∧ cap0 = 0 ∧ z0 = []) ∨ ∃ x, a0 = some x ∧ len0 ≤ cap0 ∧ cap0 ≤ maxLen ∧ z0.length = cap0 ∧ (∀ i, i < z0.length → w.cell? (x.add i) = some (.int .u8 (z0.getD i 0))) ∧ ∀ n ∈ z0, (Lit.int .u8 n).wf = true) (y0 : len0 * 1 ≤ 140737488351232) :
    Calls Try.prog 4 #[.slice a0 len0 cap0] w fun e w' => e = .returned (.bool true) ∧ Below w.heap.size w w' := by
  obtain ⟨l0, rfl, hr0, hm0, hw0, hc0⟩ := ReadsInt.ofRowC w0
  obtain ⟨k, h⟩ := P l0 hm0 y0 hw0
  refine (laws_FnLive.calls k _ _ l0 true w (Kd.C_of_reads (d := (0 : Int)) (h1 := fun _ => rfl) hr0) hc0 h).mono ?_
  rintro e w' ⟨rfl, hd⟩
  exact ⟨rfl, hd⟩

end Go.Proofs.Ytobboonnfocalaa.PB1
