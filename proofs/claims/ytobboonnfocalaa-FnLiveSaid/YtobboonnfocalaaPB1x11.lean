/- What functions of the program compute, each as a Lean function, and that the run comes to just that. Conditions: none. (Laid by this session's own program.) -/
import Derived.Test.YtobboonnfocalaaT
import Derived.Test.YtobboonnfocalaaT2
import Derived.Test.YtobboonnfocalaaPB1x0
import Derived.Test.YtobboonnfocalaaPB1x8
import Derived.Test.YtobboonnfocalaaPB1x9
import Derived.Test.YtobboonnfocalaaPB1x10
namespace Go.Proofs.Ytobboonnfocalaa.PB1
open Go.RowKit Go.Proofs.YtobboonnfocalaaW.PrintWords Go.Proofs.YtobboonnfocalaaW.PrintLast Go.Proofs.YtobboonnfocalaaW.PrintMore Go.Proofs.Ytobboonnfocalaa.T
attribute [local go_sem] max2_int min2_int max_two min_two max_three min_three max_four min_four   -- for this text's walks alone
set_option linter.unusedVariables false
set_option linter.unusedSimpArgs false

/-! ### spec_DrawLiveAdd: function 11 -/
mutual
def spec_DrawLiveAdd.j0 : Nat → List (S37) → Int → List (S37) → Bool → List Int → Int → Int → Int → Int → Option ((List (S37)) × Int × Int × Int)
  | 0, _, _, _, _, _, _, _, _, _ => none
  | k + 1, x6, x7, x9, x33, x327000, x327001, x327002, x340000, x340001 => if x33 = true then ((spec_l01Cur_pick.f x327000 x327001 x327002 (x9.length : Int)).bind fun bt346 => (if 0 ≤ bt346.1 then (if bt346.1 < (x9.length : Int) then ((spec_l01Cur_pick.f x327000 bt346.2.1 bt346.2.2 3).bind fun bt350 => (spec_DrawLiveAdd.j1 k x6 x7 x327000 bt350.2.1 bt350.2.2 ((rd_T37 x9 bt346.1).f0) (mx 1 (wrap64 (((rd_T37 x9 bt346.1).f1) - bt350.1))))) else (none)) else (none))) else (spec_DrawLiveAdd.j1 k x6 x7 x327000 x327001 x327002 x340000 x340001)
def spec_DrawLiveAdd.j1 : Nat → List (S37) → Int → List Int → Int → Int → Int → Int → Option ((List (S37)) × Int × Int × Int)
  | 0, _, _, _, _, _, _, _ => none
  | k + 1, x6, x7, x327000, x327001, x327002, x340000, x340001 => (spec_l01Cur_once.f x327000 x327001 x327002 14).bind fun bt353 => (if bt353.1 = true then ((spec_l01Cur_raw.f x327000 bt353.2.1 bt353.2.2).bind fun bt356 => (some (x6, x7, bt356.1, x340001))) else (some (x6, x7, x340000, x340001)))
end
def spec_DrawLiveAdd.f (k : Nat) (l0 : List Int) : Option ((List (S37)) × Int × Int × Int) := (spec_l01Open.f l0).bind fun bt323 => ((spec_l01Cur_live.f k bt323.1 bt323.2.1 bt323.2.2).bind fun bt327 => ((spec_l01Cur_pick.f bt323.1 bt327.2.2.1 bt327.2.2.2 70).bind fun bt333 => ((spec_l01Cur_pick.f bt323.1 bt333.2.1 bt333.2.2 4).bind fun bt336 => ((spec_LiveFree.f k bt327.1 bt327.2.1).bind fun t340 => (if (t340.length : Int) > 0 then ((spec_l01Cur_once.f bt323.1 bt336.2.1 bt336.2.2 3).bind fun bt343 => (spec_DrawLiveAdd.j0 k bt327.1 bt327.2.1 t340 (!bt343.1) bt323.1 bt343.2.1 bt343.2.2 bt333.1 (wrap64 (1 + bt336.1)))) else (spec_DrawLiveAdd.j0 k bt327.1 bt327.2.1 t340 false bt323.1 bt336.2.1 bt336.2.2 bt333.1 (wrap64 (1 + bt336.1))))))))
theorem spec_DrawLiveAdd.mono_l : ∀ k, (∀ y0 y1 y2 y3 y4 y5 y6 y7 y8, LeO (spec_DrawLiveAdd.j0 k y0 y1 y2 y3 y4 y5 y6 y7 y8) (spec_DrawLiveAdd.j0 (k + 1) y0 y1 y2 y3 y4 y5 y6 y7 y8)) ∧ (∀ y0 y1 y2 y3 y4 y5 y6, LeO (spec_DrawLiveAdd.j1 k y0 y1 y2 y3 y4 y5 y6) (spec_DrawLiveAdd.j1 (k + 1) y0 y1 y2 y3 y4 y5 y6))
  | 0 => ⟨fun _ _ _ _ _ _ _ _ _ r h => by simp [spec_DrawLiveAdd.j0] at h, fun _ _ _ _ _ _ _ r h => by simp [spec_DrawLiveAdd.j1] at h⟩
  | k + 1 => by
    obtain ⟨ih0, ih1⟩ := spec_DrawLiveAdd.mono_l k
    refine ⟨?_, ?_⟩
    · intro y0 y1 y2 y3 y4 y5 y6 y7 y8
      unfold spec_DrawLiveAdd.j0
      repeat' first
        | (with_reducible first | exact ih0 .. | exact ih1 .. | exact spec_LiveFree.mono .. | exact spec_l01Cur_live.mono .. | exact LeO.refl _ | exact LeO.none _ | refine LeO.ite ?_ ?_ | refine LeO.bind ?_ (fun _ => ?_))
        | exact LeO.none _ | refine LeO.ite ?_ ?_ | refine LeO.bind ?_ (fun _ => ?_)
    · intro y0 y1 y2 y3 y4 y5 y6
      unfold spec_DrawLiveAdd.j1
      repeat' first
        | (with_reducible first | exact ih0 .. | exact ih1 .. | exact spec_LiveFree.mono .. | exact spec_l01Cur_live.mono .. | exact LeO.refl _ | exact LeO.none _ | refine LeO.ite ?_ ?_ | refine LeO.bind ?_ (fun _ => ?_))
        | exact LeO.none _ | refine LeO.ite ?_ ?_ | refine LeO.bind ?_ (fun _ => ?_)
theorem spec_DrawLiveAdd.mono : ∀ a0 k, LeO (spec_DrawLiveAdd.f k a0) (spec_DrawLiveAdd.f (k + 1) a0) := by
  intro a0 k
  obtain ⟨ih0, ih1⟩ := spec_DrawLiveAdd.mono_l k
  unfold spec_DrawLiveAdd.f
  repeat' first
    | (with_reducible first | exact ih0 .. | exact ih1 .. | exact spec_LiveFree.mono .. | exact spec_l01Cur_live.mono .. | exact LeO.refl _ | exact LeO.none _ | refine LeO.ite ?_ ?_ | refine LeO.bind ?_ (fun _ => ?_))
    | exact LeO.none _ | refine LeO.ite ?_ ?_ | refine LeO.bind ?_ (fun _ => ?_)
def spec_DrawLiveAdd.T7 : Bool × List (List Nat × List Nat) := (true, [([], []), ([0], [0]), ([], []), ([2], [2]), ([1, 3], [1, 3]), ([4], [4]), ([0, 1, 2, 3, 4, 5], []), ([6, 5, 3, 0, 1, 2, 3, 4, 5], [5, 6])])
def spec_DrawLiveAdd.B7 : List Nat := [0, 1, 0, 4, 15, 31, 63, 127]
theorem spec_DrawLiveAdd.tab7 : rtab .any (opsOf Try.f11 7) = spec_DrawLiveAdd.T7 := kr
theorem spec_DrawLiveAdd.bits7 : waitsOk spec_DrawLiveAdd.T7.2 spec_DrawLiveAdd.B7 = true := kr
set_option maxHeartbeats 8000000 in
set_option maxRecDepth 100000 in
theorem spec_DrawLiveAdd.calls (k : Nat) (A0 : Option Addr) (c0 : Nat) (l0 : List Int) (r1 : List (S37)) (r2 : Int) (r3 : Int) (r4 : Int) (w : World) (hr0 : Kd.C (Kd.int .u8) w A0 l0.length l0) (hc0 : l0.length ≤ c0) (h : spec_DrawLiveAdd.f k l0 = some (r1, r2, r3, r4)) :
    Calls Try.prog 11 #[.slice A0 l0.length c0] w fun e w' => ∃ v0_ : Value, e = .returned (.tuple #[v0_, .int .i64 r2, .agg #[.int .i64 r3, .int .i64 r4]]) ∧ Kd.R k37 37 w' w.heap.size (fun _ => True) v0_ r1 ∧ Below w.heap.size w w' := by
  have hu37 := Try.underlying37
  have HR0 := Aside0.mk hr0
  have HC0 := Aside0.mk hc0
  clear hr0 hc0
  have HB := Aside0.mk (Below.refl w.heap.size w)
  unfold spec_DrawLiveAdd.f at h
  have H := h
  clear h
  replace H := bn H
  obtain ⟨⟨t323, t324, t325⟩, A2, H⟩ := H
  try dsimp only at H
  replace H := bn H
  obtain ⟨⟨t327, t330, t331, t332⟩, A3, H⟩ := H
  try dsimp only at H
  replace H := bn H
  obtain ⟨⟨t333, t334, t335⟩, A4, H⟩ := H
  try dsimp only at H
  replace H := bn H
  obtain ⟨⟨t336, t337, t338⟩, A5, H⟩ := H
  try dsimp only at H
  replace H := bn H
  obtain ⟨t340, A6, H⟩ := H
  try dsimp only at H
  have HC7 := Aside0.mk H
  clear H
  go_enter Try.func11, Try.ntmps11
  go_upto_region 5 with (first | ((with_reducible refine gd 4 ?_); refine bx 4 37 #[.int .i64 0, .int .i64 0] ?_; clear HB; intro gb322 w8 hg BK322 hb GE322 HB; clear hb hg) | ((with_reducible refine gf 31 ?_); refine gl 31 Try.func31 (some 11) #[.slice A0 l0.length c0] ?_; (with_reducible refine (spec_l01Open.calls _ _ _ _ _ _ w _ ?side1 ?side2 ?side3 A2.out).mono ?_); (case side1 => repeat (first | (with_reducible first | exact HB.out | apply below_alloc | apply pw_below_drewN | apply below_drew1 | refine below_set ?_ GE322.out) | exact HB.out)); (case side2 => exact HR0.out); (case side3 => exact HC0.out); rintro e w9 ⟨g326, rfl, hi, hb, hb2⟩; refine ⟨_, rfl, ?_⟩; have HI326 := Aside0.mk (hi); have NB326_322 := Aside0.mk (IsS82.ne_blk hi (blk_below (g := gb322) (o := .cells #[.int .i64 0, .int .i64 0] 37 (0, 0)) (bk BK322) hb2) (by decide)); have NB322_326 := Aside0.mk (Ne.symm (IsS82.ne_blk hi (blk_below (g := gb322) (o := .cells #[.int .i64 0, .int .i64 0] 37 (0, 0)) (bk BK322) hb2) (by decide))); replace BK322 := Aside0.mk (blk_below (g := gb322) (o := .cells #[.int .i64 0, .int .i64 0] 37 (0, 0)) (bk BK322) hb2); replace HB := Aside0.mk (hb); try clear hb) | ((with_reducible refine gf 32 ?_); refine gl 32 Try.func32 (some 14) #[.pointer (some ⟨g326, 0, none⟩)] ?_; (with_reducible refine (spec_l01Cur_live.calls _ _ _ _ _ _ _ _ _ w _ ?side1 ?side2 A3.out).mono ?_); (case side1 => repeat (first | (with_reducible first | exact HI326.out | apply IsS82.alloc | apply IsS82.drewN | apply IsS82.drew | apply IsS82.set_1 | apply IsS82.set_2 | refine IsS82.far ?_ NB326_322.out _) | exact HI326.out)); (case side2 => repeat (first | (with_reducible first | exact HB.out | apply below_alloc | apply pw_below_drewN | apply below_drew1 | refine below_set ?_ (IsS82.ge HI326.out) | refine below_set ?_ GE322.out) | exact HB.out)); rintro e w10 ⟨v328, rfl, ho0, hi, hb, hk⟩; refine ⟨_, rfl, ?_⟩; have HO329 := Aside0.mk (Kd.R_lower (Kd.R_newB ho0 (g := gb322) (o := .cells #[.int .i64 0, .int .i64 0] 37 (0, 0)) (bk BK322)) (below_size (by repeat (first | (with_reducible first | exact HB.out | apply below_alloc | apply pw_below_drewN | apply below_drew1 | refine below_set ?_ (IsS82.ge HI326.out) | refine below_set ?_ GE322.out) | exact HB.out)))); replace BK322 := Aside0.mk (KeepBut.blk hk (g' := gb322) (o := .cells #[.int .i64 0, .int .i64 0] 37 (0, 0)) (bk BK322) NB322_326.out (by simp)); replace HI326 := Aside0.mk (hi); replace HB := Aside0.mk (hb); try clear hb; (try clear ho0)) | ((with_reducible refine gf 33 ?_); refine gl 33 Try.func33 (some 18) #[.pointer (some ⟨g326, 0, none⟩), .int .i64 70] ?_; (with_reducible refine (spec_l01Cur_pick.calls _ _ _ _ _ _ _ _ w _ ?side1 ?side2 A4.out).mono ?_); (case side1 => repeat (first | (with_reducible first | exact HI326.out | apply IsS82.alloc | apply IsS82.drewN | apply IsS82.drew | apply IsS82.set_1 | apply IsS82.set_2 | refine IsS82.far ?_ NB326_322.out _) | exact HI326.out)); (case side2 => repeat (first | (with_reducible first | exact HB.out | apply below_alloc | apply pw_below_drewN | apply below_drew1 | refine below_set ?_ (IsS82.ge HI326.out) | refine below_set ?_ GE322.out) | exact HB.out)); rintro e w11 ⟨rfl, hi, hb, hk⟩; refine ⟨_, rfl, ?_⟩; replace BK322 := Aside0.mk (KeepBut.blk hk (g' := gb322) (o := .cells #[.int .i64 0, .int .i64 0] 37 (0, 0)) (bk BK322) NB322_326.out (by simp)); replace HO329 := Aside0.mk (Kd.R_mono (Kd.R_keep (IsS82.apart (show IsS82 w _ g326 t323 t331 t332 from by repeat (first | (with_reducible first | exact HI326.out | apply IsS82.alloc | apply IsS82.drewN | apply IsS82.drew | apply IsS82.set_1 | apply IsS82.set_2 | refine IsS82.far ?_ NB326_322.out _) | exact HI326.out)) (ro HO329) (by decide)) hk (fun _ h => h.2)) (fun _ h => h.1)); replace HI326 := Aside0.mk (hi); replace HB := Aside0.mk (hb); try clear hb) | ((with_reducible refine gf 33 ?_); refine gl 33 Try.func33 (some 20) #[.pointer (some ⟨g326, 0, none⟩), .int .i64 4] ?_; (with_reducible refine (spec_l01Cur_pick.calls _ _ _ _ _ _ _ _ w _ ?side1 ?side2 A5.out).mono ?_); (case side1 => repeat (first | (with_reducible first | exact HI326.out | apply IsS82.alloc | apply IsS82.drewN | apply IsS82.drew | apply IsS82.set_1 | apply IsS82.set_2 | refine IsS82.far ?_ NB326_322.out _) | exact HI326.out)); (case side2 => repeat (first | (with_reducible first | exact HB.out | apply below_alloc | apply pw_below_drewN | apply below_drew1 | refine below_set ?_ (IsS82.ge HI326.out) | refine below_set ?_ GE322.out) | exact HB.out)); rintro e w12 ⟨rfl, hi, hb, hk⟩; refine ⟨_, rfl, ?_⟩; replace BK322 := Aside0.mk (KeepBut.blk hk (g' := gb322) (o := .cells #[.int .i64 0, .int .i64 0] 37 (0, 0)) (bk BK322) NB322_326.out (by simp)); replace HO329 := Aside0.mk (Kd.R_mono (Kd.R_keep (IsS82.apart (show IsS82 w _ g326 t323 t334 t335 from by repeat (first | (with_reducible first | exact HI326.out | apply IsS82.alloc | apply IsS82.drewN | apply IsS82.drew | apply IsS82.set_1 | apply IsS82.set_2 | refine IsS82.far ?_ NB326_322.out _) | exact HI326.out)) (ro HO329) (by decide)) hk (fun _ h => h.2)) (fun _ h => h.1)); replace HI326 := Aside0.mk (hi); replace HB := Aside0.mk (hb); try clear hb) | ((with_reducible refine gd 8 ?_); refine bx0 8 37 #[.int .i64 0, .int .i64 0] ?_; intro gb339 hg w13 hbox hb; replace HO329 := Aside0.mk (Kd.R_below (Kd.R_elderB (ro HO329) gb339 (Nat.le_of_eq hg.symm)) hb); have BK339 := Aside0.mk hbox; have GW339 := Aside0.mk ((by rw [hg]; exact (below_size (by repeat (first | (with_reducible first | exact HB.out | apply below_alloc | apply pw_below_drewN | apply below_drew1 | refine below_set ?_ (IsS82.ge HI326.out) | refine below_set ?_ GE322.out) | exact HB.out))) : w.heap.size ≤ gb339)); have GE339 := Aside0.mk ((by rw [hg]; exact (below_size (by repeat (first | (with_reducible first | exact HB.out | apply below_alloc | apply pw_below_drewN | apply below_drew1 | refine below_set ?_ (IsS82.ge HI326.out) | refine below_set ?_ GE322.out) | exact HB.out))) : w.heap.size ≤ gb339)); have NB322_339 := nl BK322 hg; have NB339_322 := ng BK322 hg; replace BK322 := b_ BK322 hb; have NB326_339 := Aside0.mk ((by rw [hg]; exact Nat.ne_of_lt (IsS82.lt (show IsS82 w _ g326 t323 t337 t338 from by repeat (first | (with_reducible first | exact HI326.out | apply IsS82.alloc | apply IsS82.drewN | apply IsS82.drew | apply IsS82.set_1 | apply IsS82.set_2 | refine IsS82.far ?_ NB326_322.out _) | exact HI326.out))) : g326 ≠ gb339)); have NB339_326 := Aside0.mk ((by rw [hg]; exact Nat.ne_of_gt (IsS82.lt (show IsS82 w _ g326 t323 t337 t338 from by repeat (first | (with_reducible first | exact HI326.out | apply IsS82.alloc | apply IsS82.drewN | apply IsS82.drew | apply IsS82.set_1 | apply IsS82.set_2 | refine IsS82.far ?_ NB326_322.out _) | exact HI326.out))) : gb339 ≠ g326)); replace HB := Aside0.mk (below_step (by repeat (first | (with_reducible first | exact HB.out | apply below_alloc | apply pw_below_drewN | apply below_drew1 | refine below_set ?_ (IsS82.ge HI326.out) | refine below_set ?_ GE322.out) | exact HB.out)) hb); replace HI326 := Aside0.mk (IsS82.below (by repeat (first | (with_reducible first | exact HI326.out | apply IsS82.alloc | apply IsS82.drewN | apply IsS82.drew | apply IsS82.set_1 | apply IsS82.set_2 | refine IsS82.far ?_ NB326_322.out _) | exact HI326.out)) hb); clear hb hbox hg; have hnb14 := NB339_322.out; have hnc14 := NB322_339.out; have hnb15 := NB339_326.out; have hnc15 := NB326_339.out; obtain ⟨z16_0, z16_1⟩ := ca2 BK339; obtain ⟨f16_0, f16_1⟩ := fa2 BK339; obtain ⟨Ao17, co17, eo17⟩ := Kd.R_slice HO329.out; subst eo17) | ((with_reducible refine gf 34 ?_); refine gl 34 Try.func34 (some 25) #[.slice Ao17 t327.length co17, .int .i64 t330] ?_; (with_reducible refine (spec_LiveFree.calls _ _ _ _ _ _ _ ?side1 ?side2 A6.out).mono ?_); (case side1 => refine (Kd.R_reads' (e := 37) (base := w.heap.size) (ok := fun k_ => ((True ∧ k_ ≠ gb322) ∧ k_ ≠ gb339)) (n := t327.length) (c := co17) ?_).2.2; exact (by (with_reducible repeat (first | apply Kd.R_alloc | apply Kd.R_drewN | apply Kd.R_drew)); exact (Kd.R_mono (Kd.R_far (p := ⟨gb339, 1, none⟩) (Kd.R_far (p := ⟨gb339, 0, none⟩) (Kd.R_mono HO329.out (fun k_ hk => (⟨hk, hk.2⟩ : _ ∧ k_ ≠ gb339))) (fun _ hk => hk.2) (.int .i64 t333)) (fun _ hk => hk.2) (.int .i64 (wrap64 (1 + t336)))) (fun _ h_ => h_.1)))); (case side2 => exact (Kd.R_reads' HO329.out).2.1); rintro e w18 ⟨v341, rfl, ho0, hb⟩; refine ⟨_, rfl, ?_⟩; have HO342 := Aside0.mk (Kd.R_lower (Kd.R_newB (Kd.R_newB (Kd.R_new' ho0 (Kd.R_lt (by (with_reducible repeat (first | apply Kd.R_alloc | apply Kd.R_drewN | apply Kd.R_drew)); exact (Kd.R_mono (Kd.R_far (p := ⟨gb339, 1, none⟩) (Kd.R_far (p := ⟨gb339, 0, none⟩) (Kd.R_mono HO329.out (fun k_ hk => (⟨hk, hk.2⟩ : _ ∧ k_ ≠ gb339))) (fun _ hk => hk.2) (.int .i64 t333)) (fun _ hk => hk.2) (.int .i64 (wrap64 (1 + t336)))) (fun _ h_ => h_.1))))) (g := gb322) (o := .cells #[.int .i64 0, .int .i64 0] 37 (0, 0)) (bk BK322)) (g := gb339) (o := .cells #[.int .i64 t333, .int .i64 (wrap64 (1 + t336))] 37 (0, 0)) (bp BK339)) (below_size (by repeat (first | (with_reducible first | exact HB.out | apply below_alloc | apply pw_below_drewN | apply below_drew1 | refine below_set ?_ (IsS82.ge HI326.out) | refine below_set ?_ GE322.out | refine below_set ?_ GE339.out) | exact HB.out)))); replace HO329 := Aside0.mk (Kd.R_elder' (by (with_reducible repeat (first | apply Kd.R_alloc | apply Kd.R_drewN | apply Kd.R_drew)); exact (Kd.R_mono (Kd.R_far (p := ⟨gb339, 1, none⟩) (Kd.R_far (p := ⟨gb339, 0, none⟩) (Kd.R_mono HO329.out (fun k_ hk => (⟨hk, hk.2⟩ : _ ∧ k_ ≠ gb339))) (fun _ hk => hk.2) (.int .i64 t333)) (fun _ hk => hk.2) (.int .i64 (wrap64 (1 + t336)))) (fun _ h_ => h_.1))) (Kd.R_base ho0) hb); replace BK322 := b_ BK322 hb; replace BK339 := bq BK339 #[.int .i64 t333, .int .i64 (wrap64 (1 + t336))] hb; replace HB := Aside0.mk (below_step (by repeat (first | (with_reducible first | exact HB.out | apply below_alloc | apply pw_below_drewN | apply below_drew1 | refine below_set ?_ (IsS82.ge HI326.out) | refine below_set ?_ GE322.out | refine below_set ?_ GE339.out) | exact HB.out)) hb); replace HI326 := Aside0.mk (IsS82.below (show IsS82 w ((w13.setCell ⟨gb339, 0, none⟩ (.int .i64 t333)).setCell ⟨gb339, 1, none⟩ (.int .i64 (wrap64 (1 + t336)))) g326 t323 t337 t338 from by repeat (first | (with_reducible first | exact HI326.out | apply IsS82.alloc | apply IsS82.drewN | apply IsS82.drew | apply IsS82.set_1 | apply IsS82.set_2 | refine IsS82.far ?_ NB326_322.out _ | refine IsS82.far ?_ NB326_339.out _) | exact HI326.out)) hb); try clear hb; (try clear ho0)))
  (try refine ap ?_)
  go_cut [33] (fun v33 wc => ∃ (kq : Nat) (x33_6 : Bool) (x327001_6 : Int) (x327002_6 : Int), v33 = .bool x33_6 ∧ Aside0 (spec_DrawLiveAdd.j0 kq t327 t330 t340 x33_6 t323 x327001_6 x327002_6 t333 (wrap64 (1 + t336)) = some (r1, r2, r3, r4)) ∧ Aside0 (kq ≤ k) ∧ Aside0 (Kd.R k37 37 wc w.heap.size (fun k_ => some k_ ≠ (v341 : Value).ownBlock ∧ k_ ≠ gb322 ∧ k_ ≠ gb339) (.slice Ao17 t327.length co17) t327) ∧ Aside0 (Kd.R k37 37 wc w.heap.size (fun k_ => some k_ ≠ ((.slice Ao17 t327.length co17) : Value).ownBlock ∧ k_ ≠ gb322 ∧ k_ ≠ gb339) v341 t340) ∧ Aside0 (wc.heap[gb322]? = some (.cells #[.int .i64 0, .int .i64 0] 37 (0, 0))) ∧ Aside0 (wc.heap[gb339]? = some (.cells #[.int .i64 t333, .int .i64 (wrap64 (1 + t336))] 37 (0, 0))) ∧ Aside0 (IsS82 w wc g326 t323 x327001_6 x327002_6) ∧ Aside0 (Below w.heap.size w wc))
  case first =>
    have H := HC7.out
    clear HC7
    by_cases c19 : (t340.length : Int) > 0
    · rw [if_pos c19] at H
      have c19b0 : decide (0 < (t340.length : Int)) = true := decide_eq_true c19
      have c19b1 : decide (0 < t340.length) = true := decide_eq_true (by omega)
      clear c19
      (first | rw [c19b0] | (simp only [i64_w, i32_w]; rw [c19b0]) | (simp only [c19b2, Bool.not_true, Bool.not_false]) | (simp only [c19b1, Bool.not_true, Bool.not_false]) | skip)
      replace H := bn H
      obtain ⟨⟨t343, t344, t345⟩, A20, H⟩ := H
      try dsimp only at H
      have H' := Aside0.mk H
      clear H
      obtain ⟨Ao21, co21, eo21⟩ := Kd.R_slice HO342.out
      subst eo21
      go_wp2_with (first | (go_at_call 35; (with_reducible refine (spec_l01Cur_once.calls _ _ _ _ _ _ _ _ w _ ?side1 ?side2 A20.out).mono ?_); (case side1 => repeat (first | (with_reducible first | exact HI326.out | apply IsS82.alloc | apply IsS82.drewN | apply IsS82.drew | apply IsS82.set_1 | apply IsS82.set_2 | refine IsS82.far ?_ NB326_322.out _ | refine IsS82.far ?_ NB326_339.out _) | exact HI326.out)); (case side2 => repeat (first | (with_reducible first | exact HB.out | apply below_alloc | apply pw_below_drewN | apply below_drew1 | refine below_set ?_ (IsS82.ge HI326.out) | refine below_set ?_ GE322.out | refine below_set ?_ GE339.out) | exact HB.out)); rintro e w22 ⟨rfl, hi, hb, hk⟩; replace BK322 := Aside0.mk (KeepBut.blk hk (g' := gb322) (o := .cells #[.int .i64 0, .int .i64 0] 37 (0, 0)) (bk BK322) NB322_326.out (by simp)); replace HO329 := Aside0.mk (Kd.R_mono (Kd.R_keep (IsS82.apart (show IsS82 w _ g326 t323 t337 t338 from by repeat (first | (with_reducible first | exact HI326.out | apply IsS82.alloc | apply IsS82.drewN | apply IsS82.drew | apply IsS82.set_1 | apply IsS82.set_2 | refine IsS82.far ?_ NB326_322.out _ | refine IsS82.far ?_ NB326_339.out _) | exact HI326.out)) (ro HO329) (by decide)) hk (fun _ h => h.2)) (fun _ h => h.1)); replace BK339 := Aside0.mk (KeepBut.blk hk (g' := gb339) (o := .cells #[.int .i64 t333, .int .i64 (wrap64 (1 + t336))] 37 (0, 0)) (bk BK339) NB339_326.out (by simp)); replace HO342 := Aside0.mk (Kd.R_mono (Kd.R_keep (IsS82.apart (show IsS82 w _ g326 t323 t337 t338 from by repeat (first | (with_reducible first | exact HI326.out | apply IsS82.alloc | apply IsS82.drewN | apply IsS82.drew | apply IsS82.set_1 | apply IsS82.set_2 | refine IsS82.far ?_ NB326_322.out _ | refine IsS82.far ?_ NB326_339.out _) | exact HI326.out)) (ro HO342) (by decide)) hk (fun _ h => h.2)) (fun _ h => h.1)); replace HI326 := Aside0.mk (hi); replace HB := Aside0.mk (hb); try clear hb))
      go_meet
      case rel => exact ⟨_, (!t343), (t344), (t345), ev, H', ⟨om⟩, ⟨by (with_reducible repeat (first | apply Kd.R_alloc | apply Kd.R_drewN | apply Kd.R_drew)); exact Kd.R_mono HO329.out (fun _ hk => ⟨hk.2, ⟨hk.1.1.2, hk.1.2⟩⟩)⟩, ⟨by (with_reducible repeat (first | apply Kd.R_alloc | apply Kd.R_drewN | apply Kd.R_drew)); exact Kd.R_mono HO342.out (fun _ hk => ⟨hk.1.1.2, ⟨hk.1.2, hk.2⟩⟩)⟩, ⟨bk BK322⟩, ⟨bk BK339⟩, ⟨by repeat (first | (with_reducible first | exact HI326.out | apply IsS82.alloc | apply IsS82.drewN | apply IsS82.drew | apply IsS82.set_1 | apply IsS82.set_2 | refine IsS82.far ?_ NB326_322.out _ | refine IsS82.far ?_ NB326_339.out _) | exact HI326.out)⟩, ⟨by repeat (first | (with_reducible first | exact HB.out | apply below_alloc | apply pw_below_drewN | apply below_drew1 | refine below_set ?_ (IsS82.ge HI326.out) | refine below_set ?_ GE322.out | refine below_set ?_ GE339.out) | exact HB.out)⟩⟩
    · rw [if_neg c19] at H
      have c19b0 : decide (0 < (t340.length : Int)) = false := decide_eq_false c19
      have c19b1 : decide (0 < t340.length) = false := decide_eq_false (by omega)
      clear c19
      (first | rw [c19b0] | (simp only [i64_w, i32_w]; rw [c19b0]) | (simp only [c19b2, Bool.not_true, Bool.not_false]) | (simp only [c19b1, Bool.not_true, Bool.not_false]) | skip)
      have H' := Aside0.mk H
      clear H
      obtain ⟨Ao23, co23, eo23⟩ := Kd.R_slice HO342.out
      subst eo23
      go_wp2
      go_meet
      case rel => exact ⟨_, (false), (t337), (t338), ev, H', ⟨om⟩, ⟨by (with_reducible repeat (first | apply Kd.R_alloc | apply Kd.R_drewN | apply Kd.R_drew)); exact Kd.R_mono HO329.out (fun _ hk => ⟨hk.2, ⟨hk.1.1.2, hk.1.2⟩⟩)⟩, ⟨by (with_reducible repeat (first | apply Kd.R_alloc | apply Kd.R_drewN | apply Kd.R_drew)); exact Kd.R_mono HO342.out (fun _ hk => ⟨hk.1.1.2, ⟨hk.1.2, hk.2⟩⟩)⟩, ⟨bk BK322⟩, ⟨bk BK339⟩, ⟨by repeat (first | (with_reducible first | exact HI326.out | apply IsS82.alloc | apply IsS82.drewN | apply IsS82.drew | apply IsS82.set_1 | apply IsS82.set_2 | refine IsS82.far ?_ NB326_322.out _ | refine IsS82.far ?_ NB326_339.out _) | exact HI326.out)⟩, ⟨by repeat (first | (with_reducible first | exact HB.out | apply below_alloc | apply pw_below_drewN | apply below_drew1 | refine below_set ?_ (IsS82.ge HI326.out) | refine below_set ?_ GE322.out | refine below_set ?_ GE339.out) | exact HB.out)⟩⟩
  case rest =>
    clear HC7
    (try clear z16_0 z16_1)
    (try clear f16_0 f16_1)
    obtain ⟨kq, x33_6, x327001_6, x327002_6, rfl, HA, HJ6, HO_6, HO_9, BK322, BK339, HI326, HB⟩ := hcut
    cases kq with
    | zero => exact absurd HA.out (by simp [spec_DrawLiveAdd.j0])
    | succ kj6 =>
      have H := HA.out
      clear HA
      simp only [spec_DrawLiveAdd.j0] at H
      have HC24 := Aside0.mk H
      clear H
      go_upto_if 33 with (fail)
      go_cut [] (fun wc => ∃ (kq : Nat) (x327001_23 : Int) (x327002_23 : Int) (x340000_23 : Int) (x340001_23 : Int), Aside0 (spec_DrawLiveAdd.j1 kq t327 t330 t323 x327001_23 x327002_23 x340000_23 x340001_23 = some (r1, r2, r3, r4)) ∧ Aside0 (kq ≤ kj6) ∧ Aside0 (Kd.R k37 37 wc w.heap.size (fun k_ => k_ ≠ gb322 ∧ k_ ≠ gb339) (.slice Ao17 t327.length co17) t327) ∧ Aside0 (wc.heap[gb322]? = some (.cells #[.int .i64 0, .int .i64 0] 37 (0, 0))) ∧ Aside0 (wc.heap[gb339]? = some (.cells #[.int .i64 x340000_23, .int .i64 x340001_23] 37 (0, 0))) ∧ Aside0 (IsS82 w wc g326 t323 x327001_23 x327002_23) ∧ Aside0 (Below w.heap.size w wc))
      case first =>
        have H := HC24.out
        clear HC24
        replace H := ib H
        rcases H with ⟨rfl, H⟩ | ⟨rfl, H⟩
        · (try simp only [Bool.not_true, Bool.not_false])
          replace H := bn H
          obtain ⟨⟨t346, t347, t348⟩, A26, H⟩ := H
          try dsimp only at H
          by_cases c27 : 0 ≤ t346
          · rw [if_pos c27] at H
            have c27b0 : decide (0 ≤ t346) = true := decide_eq_true c27
            clear c27
            by_cases c28 : t346 < (t340.length : Int)
            · rw [if_pos c28] at H
              have c28b0 : decide (t346 < (t340.length : Int)) = true := decide_eq_true c28
              clear c28
              replace H := bn H
              obtain ⟨⟨t350, t351, t352⟩, A29, H⟩ := H
              try dsimp only at H
              obtain ⟨ji30, hji30⟩ : ∃ j_ : Int, (mx 1 (wrap64 (((rd_T37 t340 t346).f1) - t350))) = j_ := ⟨_, rfl⟩
              first | rw [hji30] at H | simp only [hji30] at H
              (try rw [hji30] at A26)
              (try rw [hji30] at A29)
              have hji30_ : (if 1 < (wrap64 (((rd_T37 t340 t346).f1) - t350)) then (wrap64 (((rd_T37 t340 t346).f1) - t350)) else 1) = ji30 := hji30
              have H' := Aside0.mk H
              clear H
              obtain ⟨Ao31, co31, eo31⟩ := Kd.R_slice HO_9.out
              subst eo31
              try go_wp2_with (first | ((with_reducible refine gf 33 ?_); refine gl 33 Try.func33 (some 38) #[.pointer (some ⟨g326, 0, none⟩), .int .i64 (t340.length : Int)] ?_; (with_reducible refine (spec_l01Cur_pick.calls _ _ _ _ _ _ _ _ w _ ?side1 ?side2 A26.out).mono ?_); (case side1 => repeat (first | (with_reducible first | exact HI326.out | apply IsS82.alloc | apply IsS82.drewN | apply IsS82.drew | apply IsS82.set_1 | apply IsS82.set_2 | refine IsS82.far ?_ NB326_322.out _ | refine IsS82.far ?_ NB326_339.out _) | exact HI326.out)); (case side2 => repeat (first | (with_reducible first | exact HB.out | apply below_alloc | apply pw_below_drewN | apply below_drew1 | refine below_set ?_ (IsS82.ge HI326.out) | refine below_set ?_ GE322.out | refine below_set ?_ GE339.out) | exact HB.out)); rintro e w32 ⟨rfl, hi, hb, hk⟩; refine ⟨_, rfl, ?_⟩; replace HO_6 := Aside0.mk (Kd.R_mono (Kd.R_keep (IsS82.apart (show IsS82 w _ g326 t323 x327001_6 x327002_6 from by repeat (first | (with_reducible first | exact HI326.out | apply IsS82.alloc | apply IsS82.drewN | apply IsS82.drew | apply IsS82.set_1 | apply IsS82.set_2 | refine IsS82.far ?_ NB326_322.out _ | refine IsS82.far ?_ NB326_339.out _) | exact HI326.out)) (ro HO_6) (by decide)) hk (fun _ h => h.2)) (fun _ h => h.1)); replace HO_9 := Aside0.mk (Kd.R_mono (Kd.R_keep (IsS82.apart (show IsS82 w _ g326 t323 x327001_6 x327002_6 from by repeat (first | (with_reducible first | exact HI326.out | apply IsS82.alloc | apply IsS82.drewN | apply IsS82.drew | apply IsS82.set_1 | apply IsS82.set_2 | refine IsS82.far ?_ NB326_322.out _ | refine IsS82.far ?_ NB326_339.out _) | exact HI326.out)) (ro HO_9) (by decide)) hk (fun _ h => h.2)) (fun _ h => h.1)); replace BK322 := Aside0.mk (KeepBut.blk hk (g' := gb322) (o := .cells #[.int .i64 0, .int .i64 0] 37 (0, 0)) (bk BK322) NB322_326.out (by simp)); replace BK339 := Aside0.mk (KeepBut.blk hk (g' := gb339) (o := .cells #[.int .i64 t333, .int .i64 (wrap64 (1 + t336))] 37 (0, 0)) (bk BK339) NB339_326.out (by simp)); replace HI326 := Aside0.mk (hi); replace HB := Aside0.mk (hb); try clear hb; have p349 : 0 ≤ (t346 : Int) := of_decide_eq_true as_; have q349 : t346 < (t340.length : Int) := of_decide_eq_true as_; obtain ⟨ad349, e349, hx349_0, hx349_1⟩ := at_T37 (Kd.R_reads' HO_9.out).2.2 t346 p349 q349; cases e349; replace p349 := eq_true p349; replace q349 := eq_true q349; have hnb33 := NB339_322.out; have hnc33 := NB322_339.out; have hnb34 := NB339_326.out; have hnc34 := NB326_339.out; obtain ⟨z35_0, z35_1⟩ := ca2 BK339; obtain ⟨f35_0, f35_1⟩ := fa2 BK339))
              have n0_ : Aside0 (Kd.R k37 37 ((w32.setCell ⟨gb339, 0, none⟩ (.int .i64 ((rd_T37 t340 t346).f0))).setCell ⟨gb339, 1, none⟩ (.int .i64 ((rd_T37 t340 t346).f1))) w.heap.size (fun k_ => some k_ ≠ (.slice (some ad349) t340.length co31 : Value).ownBlock ∧ k_ ≠ gb322 ∧ k_ ≠ gb339) (.slice Ao17 t327.length co17) t327) := ⟨by (with_reducible repeat (first | apply Kd.R_alloc | apply Kd.R_drewN | apply Kd.R_drew)); exact Kd.R_mono (Kd.R_far (p := ⟨gb339, 1, none⟩) (Kd.R_far (p := ⟨gb339, 0, none⟩) (Kd.R_mono HO_6.out (fun k_ hk => (⟨hk, hk.2.2⟩ : _ ∧ k_ ≠ gb339))) (fun _ hk => hk.2) (.int .i64 ((rd_T37 t340 t346).f0))) (fun _ hk => hk.2) (.int .i64 ((rd_T37 t340 t346).f1))) (fun _ hk => ⟨hk.1.1, ⟨hk.1.2.1, hk.1.2.2⟩⟩)⟩
              have n1_ : Aside0 (Kd.R k37 37 ((w32.setCell ⟨gb339, 0, none⟩ (.int .i64 ((rd_T37 t340 t346).f0))).setCell ⟨gb339, 1, none⟩ (.int .i64 ((rd_T37 t340 t346).f1))) w.heap.size (fun k_ => some k_ ≠ (.slice Ao17 t327.length co17 : Value).ownBlock ∧ k_ ≠ gb322 ∧ k_ ≠ gb339) (.slice (some ad349) t340.length co31) t340) := ⟨by (with_reducible repeat (first | apply Kd.R_alloc | apply Kd.R_drewN | apply Kd.R_drew)); exact Kd.R_mono (Kd.R_far (p := ⟨gb339, 1, none⟩) (Kd.R_far (p := ⟨gb339, 0, none⟩) (Kd.R_mono HO_9.out (fun k_ hk => (⟨hk, hk.2.2⟩ : _ ∧ k_ ≠ gb339))) (fun _ hk => hk.2) (.int .i64 ((rd_T37 t340 t346).f0))) (fun _ hk => hk.2) (.int .i64 ((rd_T37 t340 t346).f1))) (fun _ hk => ⟨hk.1.1, ⟨hk.1.2.1, hk.1.2.2⟩⟩)⟩
              have n2_ : Aside0 (((w32.setCell ⟨gb339, 0, none⟩ (.int .i64 ((rd_T37 t340 t346).f0))).setCell ⟨gb339, 1, none⟩ (.int .i64 ((rd_T37 t340 t346).f1))).heap[gb322]? = some (.cells #[.int .i64 0, .int .i64 0] 37 (0, 0))) := ⟨bk BK322⟩
              have n3_ : Aside0 (((w32.setCell ⟨gb339, 0, none⟩ (.int .i64 ((rd_T37 t340 t346).f0))).setCell ⟨gb339, 1, none⟩ (.int .i64 ((rd_T37 t340 t346).f1))).heap[gb339]? = some (.cells #[.int .i64 ((rd_T37 t340 t346).f0), .int .i64 ((rd_T37 t340 t346).f1)] 37 (0, 0))) := ⟨bp BK339⟩
              have n4_ : Aside0 (IsS82 w ((w32.setCell ⟨gb339, 0, none⟩ (.int .i64 ((rd_T37 t340 t346).f0))).setCell ⟨gb339, 1, none⟩ (.int .i64 ((rd_T37 t340 t346).f1))) g326 t323 t347 t348) := ⟨by repeat (first | (with_reducible first | exact HI326.out | apply IsS82.alloc | apply IsS82.drewN | apply IsS82.drew | apply IsS82.set_1 | apply IsS82.set_2 | refine IsS82.far ?_ NB326_322.out _ | refine IsS82.far ?_ NB326_339.out _) | exact HI326.out)⟩
              have n5_ : Aside0 (Below w.heap.size w ((w32.setCell ⟨gb339, 0, none⟩ (.int .i64 ((rd_T37 t340 t346).f0))).setCell ⟨gb339, 1, none⟩ (.int .i64 ((rd_T37 t340 t346).f1)))) := ⟨by repeat (first | (with_reducible first | exact HB.out | apply below_alloc | apply pw_below_drewN | apply below_drew1 | refine below_set ?_ (IsS82.ge HI326.out) | refine below_set ?_ GE322.out | refine below_set ?_ GE339.out) | exact HB.out)⟩
              (try clear HO_6)
              (try clear HO_9)
              (try clear BK322)
              (try clear BK339)
              (try clear HI326)
              (try clear HB)
              generalize ((w32.setCell ⟨gb339, 0, none⟩ (.int .i64 ((rd_T37 t340 t346).f0))).setCell ⟨gb339, 1, none⟩ (.int .i64 ((rd_T37 t340 t346).f1))) = w36 at n0_ n1_ n2_ n3_ n4_ n5_ ⊢
              have HO_6 := n0_
              have HO_9 := n1_
              have BK322 := n2_
              have BK339 := n3_
              have HI326 := n4_
              have HB := n5_
              clear n0_ n1_ n2_ n3_ n4_ n5_
              replace HO_6 := Aside0.mk (Kd.R_drew HO_6.out)
              replace HO_9 := Aside0.mk (Kd.R_drew HO_9.out)
              replace BK322 := bd BK322
              replace BK339 := bd BK339
              replace HI326 := Aside0.mk (IsS82.drew HI326.out)
              replace HB := hd HB
              refine st 8 (fun w' => CA w' gb339 0 [.int .i64 ((rd_T37 t340 t346).f0), .int .i64 ((rd_T37 t340 t346).f1)]) [7] (cx BK339) spec_DrawLiveAdd.tab7 spec_DrawLiveAdd.bits7 ?_; intro hHeld HT_ HW_
              generalize w36.drew = w37 at HO_6 HO_9 BK322 BK339 HI326 HB hHeld ⊢
              refine pu 0 41 (bl 8 1) ?_
              refine pu 2 43 (bl 8 5) ?_
              refine tk 1 42 (bl 8 7) ?_
              refine on_ 3 (some 44) (bl 8 15) (fun K hK => ?_)
              refine gg Try.func33 #[.pointer (some ⟨g326, 0, none⟩), .int .i64 3] ?_
              with_reducible refine (spec_l01Cur_pick.calls _ _ _ _ _ _ _ _ w _ ?side1 ?side2 A29.out).mono ?_
              (case side1 => repeat (first | (with_reducible first | exact HI326.out | apply IsS82.alloc | apply IsS82.drewN | apply IsS82.drew | apply IsS82.set_1 | apply IsS82.set_2 | refine IsS82.far ?_ NB326_322.out _ | refine IsS82.far ?_ NB326_339.out _) | exact HI326.out))
              (case side2 => repeat (first | (with_reducible first | exact HB.out | apply below_alloc | apply pw_below_drewN | apply below_drew1 | refine below_set ?_ (IsS82.ge HI326.out) | refine below_set ?_ GE322.out | refine below_set ?_ GE339.out) | exact HB.out))
              rintro e w38 ⟨rfl, hi, hb, hk⟩
              refine ⟨_, rfl, ?_⟩
              replace HO_6 := Aside0.mk (Kd.R_mono (Kd.R_keep (IsS82.apart (show IsS82 w _ g326 t323 t347 t348 from by repeat (first | (with_reducible first | exact HI326.out | apply IsS82.alloc | apply IsS82.drewN | apply IsS82.drew | apply IsS82.set_1 | apply IsS82.set_2 | refine IsS82.far ?_ NB326_322.out _ | refine IsS82.far ?_ NB326_339.out _) | exact HI326.out)) (ro HO_6) (by decide)) hk (fun _ h => h.2)) (fun _ h => h.1))
              replace HO_9 := Aside0.mk (Kd.R_mono (Kd.R_keep (IsS82.apart (show IsS82 w _ g326 t323 t347 t348 from by repeat (first | (with_reducible first | exact HI326.out | apply IsS82.alloc | apply IsS82.drewN | apply IsS82.drew | apply IsS82.set_1 | apply IsS82.set_2 | refine IsS82.far ?_ NB326_322.out _ | refine IsS82.far ?_ NB326_339.out _) | exact HI326.out)) (ro HO_9) (by decide)) hk (fun _ h => h.2)) (fun _ h => h.1))
              replace BK322 := Aside0.mk (KeepBut.blk hk (g' := gb322) (o := .cells #[.int .i64 0, .int .i64 0] 37 (0, 0)) (bk BK322) NB322_326.out (by simp))
              replace BK339 := Aside0.mk (KeepBut.blk hk (g' := gb339) (o := .cells #[.int .i64 ((rd_T37 t340 t346).f0), .int .i64 ((rd_T37 t340 t346).f1)] 37 (0, 0)) (bk BK339) NB339_326.out (by simp))
              replace HI326 := Aside0.mk (hi)
              replace HB := Aside0.mk (hb)
              (try clear hb)
              (try clear hb2)
              (try clear hk)
              (try clear hi)
              refine hK.out _ _ (cx BK339) (fun hHeld => ?_)
              clear hK K
              refine nm ?_
              refine pu 4 45 (bl 8 31) ?_
              refine pu 5 46 (bl 8 63) ?_
              refine pu 6 47 (bl 8 127) ?_
              refine last_ (i := 7) (N := none) (bl 8 255) rfl rfl (one_of HT_.out kr) (by decide) (fun K hK => ?_)
              have hs39 : w38.cell? ⟨gb339, 1, none⟩ = some (.int .i64 ((rd_T37 t340 t346).f1)) := (blk_cell BK339.out 1).trans rfl
              have hfs39 := blk_frozen BK339.out 1
              have hns39_0 := NB322_339.out
              have hms39_0 := NB339_322.out
              refine skip_ (w1 := ?_) (by rfl) rfl ?_ ?_
              rotate_left
              · go_simp
                rfl
              refine hK.out _ _ ?_
              clear hK K
              refine dn ?_ _
              try go_wp2
              go_meet
              case rel => exact ⟨_, (t351), (t352), ((rd_T37 t340 t346).f0), (ji30), H', ⟨by have := HJ6.out; first | omega | exact Nat.le_refl _⟩, ⟨by (with_reducible repeat (first | apply Kd.R_alloc | apply Kd.R_drewN | apply Kd.R_drew)); exact Kd.R_mono (Kd.R_far (p := ⟨gb339, 1, none⟩) (Kd.R_mono HO_6.out (fun k_ hk => (⟨hk, hk.2.2⟩ : _ ∧ k_ ≠ gb339))) (fun _ hk => hk.2) (.int .i64 ji30)) (fun _ hk => ⟨hk.1.2.1, hk.1.2.2⟩)⟩, ⟨bk BK322⟩, ⟨bp BK339⟩, ⟨by repeat (first | (with_reducible first | exact HI326.out | apply IsS82.alloc | apply IsS82.drewN | apply IsS82.drew | apply IsS82.set_1 | apply IsS82.set_2 | refine IsS82.far ?_ NB326_322.out _ | refine IsS82.far ?_ NB326_339.out _) | exact HI326.out)⟩, ⟨by repeat (first | (with_reducible first | exact HB.out | apply below_alloc | apply pw_below_drewN | apply below_drew1 | refine below_set ?_ (IsS82.ge HI326.out) | refine below_set ?_ GE322.out | refine below_set ?_ GE339.out) | exact HB.out)⟩⟩
            · rw [if_neg c28] at H
              exact absurd H (by simp)
          · rw [if_neg c27] at H
            exact absurd H (by simp)
        · (try simp only [Bool.not_true, Bool.not_false])
          have H' := Aside0.mk H
          clear H
          go_wp2
          go_meet
          case rel => exact ⟨_, (x327001_6), (x327002_6), (t333), ((wrap64 (1 + t336))), H', ⟨by have := HJ6.out; first | omega | exact Nat.le_refl _⟩, ⟨by (with_reducible repeat (first | apply Kd.R_alloc | apply Kd.R_drewN | apply Kd.R_drew)); exact Kd.R_mono HO_6.out (fun _ hk => ⟨hk.2.1, hk.2.2⟩)⟩, ⟨bk BK322⟩, ⟨bk BK339⟩, ⟨by repeat (first | (with_reducible first | exact HI326.out | apply IsS82.alloc | apply IsS82.drewN | apply IsS82.drew | apply IsS82.set_1 | apply IsS82.set_2 | refine IsS82.far ?_ NB326_322.out _ | refine IsS82.far ?_ NB326_339.out _) | exact HI326.out)⟩, ⟨by repeat (first | (with_reducible first | exact HB.out | apply below_alloc | apply pw_below_drewN | apply below_drew1 | refine below_set ?_ (IsS82.ge HI326.out) | refine below_set ?_ GE322.out | refine below_set ?_ GE339.out) | exact HB.out)⟩⟩
      case rest =>
        clear HC24
        (try clear z16_0 z16_1)
        (try clear f16_0 f16_1)
        obtain ⟨kq, x327001_23, x327002_23, x340000_23, x340001_23, HA, HJ23, HO_6, BK322, BK339, HI326, HB⟩ := hcut
        cases kq with
        | zero => exact absurd HA.out (by simp [spec_DrawLiveAdd.j1])
        | succ kj23 =>
          have H := HA.out
          clear HA
          simp only [spec_DrawLiveAdd.j1] at H
          replace H := bn H
          obtain ⟨⟨t353, t354, t355⟩, A40, H⟩ := H
          try dsimp only at H
          have HU41 := Aside0.mk H
          clear H
          go_upto_if 49 with (first | ((with_reducible refine gf 35 ?_); refine gl 35 Try.func35 (some 49) #[.pointer (some ⟨g326, 0, none⟩), .int .i64 14] ?_; (with_reducible refine (spec_l01Cur_once.calls _ _ _ _ _ _ _ _ w _ ?side1 ?side2 A40.out).mono ?_); (case side1 => repeat (first | (with_reducible first | exact HI326.out | apply IsS82.alloc | apply IsS82.drewN | apply IsS82.drew | apply IsS82.set_1 | apply IsS82.set_2 | refine IsS82.far ?_ NB326_322.out _ | refine IsS82.far ?_ NB326_339.out _) | exact HI326.out)); (case side2 => repeat (first | (with_reducible first | exact HB.out | apply below_alloc | apply pw_below_drewN | apply below_drew1 | refine below_set ?_ (IsS82.ge HI326.out) | refine below_set ?_ GE322.out | refine below_set ?_ GE339.out) | exact HB.out)); rintro e w42 ⟨rfl, hi, hb, hk⟩; refine ⟨_, rfl, ?_⟩; replace HO_6 := Aside0.mk (Kd.R_mono (Kd.R_keep (IsS82.apart (show IsS82 w _ g326 t323 x327001_23 x327002_23 from by repeat (first | (with_reducible first | exact HI326.out | apply IsS82.alloc | apply IsS82.drewN | apply IsS82.drew | apply IsS82.set_1 | apply IsS82.set_2 | refine IsS82.far ?_ NB326_322.out _ | refine IsS82.far ?_ NB326_339.out _) | exact HI326.out)) (ro HO_6) (by decide)) hk (fun _ h => h.2)) (fun _ h => h.1)); replace BK322 := Aside0.mk (KeepBut.blk hk (g' := gb322) (o := .cells #[.int .i64 0, .int .i64 0] 37 (0, 0)) (bk BK322) NB322_326.out (by simp)); replace BK339 := Aside0.mk (KeepBut.blk hk (g' := gb339) (o := .cells #[.int .i64 x340000_23, .int .i64 x340001_23] 37 (0, 0)) (bk BK339) NB339_326.out (by simp)); replace HI326 := Aside0.mk (hi); replace HB := Aside0.mk (hb); try clear hb))
          (try refine ap ?_)
          have H := HU41.out
          clear HU41
          replace H := ib H
          rcases H with ⟨rfl, H⟩ | ⟨rfl, H⟩
          · (try simp only [Bool.not_true, Bool.not_false])
            replace H := bn H
            obtain ⟨⟨t356, t357, t358⟩, A44, H⟩ := H
            try dsimp only at H
            simp only [Option.some.injEq, Prod.mk.injEq] at H
            obtain ⟨rfl, rfl, rfl, rfl⟩ := H
            try go_wp2_with (first | ((with_reducible refine gf 36 ?_); refine gl 36 Try.func36 (some 51) #[.pointer (some ⟨g326, 0, none⟩)] ?_; (with_reducible refine (spec_l01Cur_raw.calls _ _ _ _ _ _ _ w _ ?side1 ?side2 A44.out).mono ?_); (case side1 => repeat (first | (with_reducible first | exact HI326.out | apply IsS82.alloc | apply IsS82.drewN | apply IsS82.drew | apply IsS82.set_1 | apply IsS82.set_2 | refine IsS82.far ?_ NB326_322.out _ | refine IsS82.far ?_ NB326_339.out _) | exact HI326.out)); (case side2 => repeat (first | (with_reducible first | exact HB.out | apply below_alloc | apply pw_below_drewN | apply below_drew1 | refine below_set ?_ (IsS82.ge HI326.out) | refine below_set ?_ GE322.out | refine below_set ?_ GE339.out) | exact HB.out)); rintro e w45 ⟨rfl, hi, hb, hk⟩; refine ⟨_, rfl, ?_⟩; replace HO_6 := Aside0.mk (Kd.R_mono (Kd.R_keep (IsS82.apart (show IsS82 w _ g326 t323 t354 t355 from by repeat (first | (with_reducible first | exact HI326.out | apply IsS82.alloc | apply IsS82.drewN | apply IsS82.drew | apply IsS82.set_1 | apply IsS82.set_2 | refine IsS82.far ?_ NB326_322.out _ | refine IsS82.far ?_ NB326_339.out _) | exact HI326.out)) (ro HO_6) (by decide)) hk (fun _ h => h.2)) (fun _ h => h.1)); replace BK322 := Aside0.mk (KeepBut.blk hk (g' := gb322) (o := .cells #[.int .i64 0, .int .i64 0] 37 (0, 0)) (bk BK322) NB322_326.out (by simp)); replace BK339 := Aside0.mk (KeepBut.blk hk (g' := gb339) (o := .cells #[.int .i64 x340000_23, .int .i64 x340001_23] 37 (0, 0)) (bk BK339) NB339_326.out (by simp)); replace HI326 := Aside0.mk (hi); replace HB := Aside0.mk (hb); try clear hb; have hnb46 := NB339_322.out; have hnc46 := NB322_339.out; have hnb47 := NB339_326.out; have hnc47 := NB326_339.out; obtain ⟨z48_0, z48_1⟩ := ca2 BK339; obtain ⟨f48_0, f48_1⟩ := fa2 BK339))
            have n0_ : Aside0 (Kd.R k37 37 (w45.setCell ⟨gb339, 0, none⟩ (.int .i64 t356)) w.heap.size (fun k_ => k_ ≠ gb322 ∧ k_ ≠ gb339) (.slice Ao17 t327.length co17) t327) := ⟨by (with_reducible repeat (first | apply Kd.R_alloc | apply Kd.R_drewN | apply Kd.R_drew)); exact Kd.R_mono (Kd.R_far (p := ⟨gb339, 0, none⟩) (Kd.R_mono HO_6.out (fun k_ hk => (⟨hk, hk.2⟩ : _ ∧ k_ ≠ gb339))) (fun _ hk => hk.2) (.int .i64 t356)) (fun _ hk => ⟨hk.1.1, hk.1.2⟩)⟩
            have n1_ : Aside0 ((w45.setCell ⟨gb339, 0, none⟩ (.int .i64 t356)).heap[gb322]? = some (.cells #[.int .i64 0, .int .i64 0] 37 (0, 0))) := ⟨bk BK322⟩
            have n2_ : Aside0 ((w45.setCell ⟨gb339, 0, none⟩ (.int .i64 t356)).heap[gb339]? = some (.cells #[.int .i64 t356, .int .i64 x340001_23] 37 (0, 0))) := ⟨bp BK339⟩
            have n3_ : Aside0 (IsS82 w (w45.setCell ⟨gb339, 0, none⟩ (.int .i64 t356)) g326 t323 t357 t358) := ⟨by repeat (first | (with_reducible first | exact HI326.out | apply IsS82.alloc | apply IsS82.drewN | apply IsS82.drew | apply IsS82.set_1 | apply IsS82.set_2 | refine IsS82.far ?_ NB326_322.out _ | refine IsS82.far ?_ NB326_339.out _) | exact HI326.out)⟩
            have n4_ : Aside0 (Below w.heap.size w (w45.setCell ⟨gb339, 0, none⟩ (.int .i64 t356))) := ⟨by repeat (first | (with_reducible first | exact HB.out | apply below_alloc | apply pw_below_drewN | apply below_drew1 | refine below_set ?_ (IsS82.ge HI326.out) | refine below_set ?_ GE322.out | refine below_set ?_ GE339.out) | exact HB.out)⟩
            (try clear HO_6)
            (try clear BK322)
            (try clear BK339)
            (try clear HI326)
            (try clear HB)
            generalize (w45.setCell ⟨gb339, 0, none⟩ (.int .i64 t356)) = w49 at n0_ n1_ n2_ n3_ n4_ ⊢
            have HO_6 := n0_
            have BK322 := n1_
            have BK339 := n2_
            have HI326 := n3_
            have HB := n4_
            clear n0_ n1_ n2_ n3_ n4_
            replace HO_6 := Aside0.mk (Kd.R_drew HO_6.out)
            replace BK322 := bd BK322
            replace BK339 := bd BK339
            replace HI326 := Aside0.mk (IsS82.drew HI326.out)
            replace HB := hd HB
            refine st0 6 (fun w' => CA w' gb339 0 [.int .i64 t356, .int .i64 x340001_23]) [] (cx BK339) ?_; intro hHeld
            generalize w49.drew = w50 at HO_6 BK322 BK339 HI326 HB hHeld ⊢
            refine pu 0 53 (bl 6 1) ?_
            refine pu 1 54 (bl 6 3) ?_
            refine pu 3 2 (bl 6 11) ?_
            refine pu 4 3 (bl 6 27) ?_
            refine tk 2 55 (bl 6 31) ?_
            refine on_ 5 (none) (bl 6 63) (fun K hK => ?_)
            have hs51 : w50.cell? ⟨gb322, 0, none⟩ = some (.int .i64 0) := (blk_cell BK322.out 0).trans rfl
            have hfs51 := blk_frozen BK322.out 0
            have hns51_1 := NB339_322.out
            have hms51_1 := NB322_339.out
            have hs52 : w50.cell? ⟨gb322, 1, none⟩ = some (.int .i64 0) := (blk_cell BK322.out 1).trans rfl
            have hfs52 := blk_frozen BK322.out 1
            have hns52_1 := NB339_322.out
            have hms52_1 := NB322_339.out
            refine skip_ (w1 := ?_) (by rfl) rfl ?_ ?_
            rotate_left
            · go_simp
              rfl
            refine hK.out _ _ (cf NB339_322 hHeld) (fun hHeld => ?_)
            clear hK K
            refine dn ?_ _
            try go_wp2
            refine bodyPost_ret (results_list (rs := [.tmp 2, .tmp 3, .cell 4 37]) rfl (by simp) (.tmp (.tmp (.cell gb322 37 #[.int .i64 t356, .int .i64 x340001_23] (0, 0) _ rfl (bp BK322) Try.underlying37 rfl kr .nil)))) rfl ?_
            exact ⟨_, rt, by (with_reducible repeat (first | apply Kd.R_alloc | apply Kd.R_drewN | apply Kd.R_drew)); exact Kd.R_mono (Kd.R_far (p := ⟨gb322, 1, none⟩) (Kd.R_far (p := ⟨gb322, 0, none⟩) (Kd.R_mono HO_6.out (fun k_ hk => (⟨hk, hk.1⟩ : _ ∧ k_ ≠ gb322))) (fun _ hk => hk.2) (.int .i64 t356)) (fun _ hk => hk.2) (.int .i64 x340001_23)) (fun _ hk => trivial), by repeat (first | (with_reducible first | exact HB.out | apply below_alloc | apply pw_below_drewN | apply below_drew1 | refine below_set ?_ (IsS82.ge HI326.out) | refine below_set ?_ GE322.out | refine below_set ?_ GE339.out) | exact HB.out)⟩
          · (try simp only [Bool.not_true, Bool.not_false])
            simp only [Option.some.injEq, Prod.mk.injEq] at H
            obtain ⟨rfl, rfl, rfl, rfl⟩ := H
            try go_wp2
            replace HO_6 := Aside0.mk (Kd.R_drew HO_6.out)
            replace BK322 := bd BK322
            replace BK339 := bd BK339
            replace HI326 := Aside0.mk (IsS82.drew HI326.out)
            replace HB := hd HB
            refine st0 6 (fun w' => CA w' gb339 0 [.int .i64 x340000_23, .int .i64 x340001_23]) [] (cx BK339) ?_; intro hHeld
            generalize w42.drew = w53 at HO_6 BK322 BK339 HI326 HB hHeld ⊢
            refine pu 0 53 (bl 6 1) ?_
            refine pu 1 54 (bl 6 3) ?_
            refine pu 3 2 (bl 6 11) ?_
            refine pu 4 3 (bl 6 27) ?_
            refine tk 2 55 (bl 6 31) ?_
            refine on_ 5 (none) (bl 6 63) (fun K hK => ?_)
            have hs54 : w53.cell? ⟨gb322, 0, none⟩ = some (.int .i64 0) := (blk_cell BK322.out 0).trans rfl
            have hfs54 := blk_frozen BK322.out 0
            have hns54_1 := NB339_322.out
            have hms54_1 := NB322_339.out
            have hs55 : w53.cell? ⟨gb322, 1, none⟩ = some (.int .i64 0) := (blk_cell BK322.out 1).trans rfl
            have hfs55 := blk_frozen BK322.out 1
            have hns55_1 := NB339_322.out
            have hms55_1 := NB322_339.out
            refine skip_ (w1 := ?_) (by rfl) rfl ?_ ?_
            rotate_left
            · go_simp
              rfl
            refine hK.out _ _ (cf NB339_322 hHeld) (fun hHeld => ?_)
            clear hK K
            refine dn ?_ _
            try go_wp2
            refine bodyPost_ret (results_list (rs := [.tmp 2, .tmp 3, .cell 4 37]) rfl (by simp) (.tmp (.tmp (.cell gb322 37 #[.int .i64 x340000_23, .int .i64 x340001_23] (0, 0) _ rfl (bp BK322) Try.underlying37 rfl kr .nil)))) rfl ?_
            exact ⟨_, rt, by (with_reducible repeat (first | apply Kd.R_alloc | apply Kd.R_drewN | apply Kd.R_drew)); exact Kd.R_mono (Kd.R_far (p := ⟨gb322, 1, none⟩) (Kd.R_far (p := ⟨gb322, 0, none⟩) (Kd.R_mono HO_6.out (fun k_ hk => (⟨hk, hk.1⟩ : _ ∧ k_ ≠ gb322))) (fun _ hk => hk.2) (.int .i64 x340000_23)) (fun _ hk => hk.2) (.int .i64 x340001_23)) (fun _ hk => trivial), by repeat (first | (with_reducible first | exact HB.out | apply below_alloc | apply pw_below_drewN | apply below_drew1 | refine below_set ?_ (IsS82.ge HI326.out) | refine below_set ?_ GE322.out | refine below_set ?_ GE339.out) | exact HB.out)⟩

end Go.Proofs.Ytobboonnfocalaa.PB1
