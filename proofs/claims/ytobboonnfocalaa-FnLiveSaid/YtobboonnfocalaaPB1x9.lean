/- What functions of the program compute, each as a Lean function, and that the run comes to just that. Conditions: none. (Laid by this session's own program.) -/
import Derived.Test.YtobboonnfocalaaT
import Derived.Test.YtobboonnfocalaaT2
import Derived.Test.YtobboonnfocalaaPB1x0
import Derived.Test.YtobboonnfocalaaPB1x8
namespace Go.Proofs.Ytobboonnfocalaa.PB1
open Go.RowKit Go.Proofs.YtobboonnfocalaaW.PrintWords Go.Proofs.YtobboonnfocalaaW.PrintLast Go.Proofs.YtobboonnfocalaaW.PrintMore Go.Proofs.Ytobboonnfocalaa.T
attribute [local go_sem] max2_int min2_int max_two min_two max_three min_three max_four min_four   -- for this text's walks alone
set_option linter.unusedVariables false
set_option linter.unusedSimpArgs false

/-! ### spec_l01Cur_live: function 32 -/
def spec_l01Cur_live.l0 : Nat → Int → List (S37) → Int → Int → List Int → Int → Int → Option ((List (S37)) × Int × Int × Int)
  | 0, _, _, _, _, _, _, _ => none
  | k + 1, x4, x5, x6, x7, x1000, x1001, x1002 => if x7 > 0 then ((spec_l01Cur_pick.f x1000 x1001 x1002 6).bind fun bt263 => (if (wrap64 (x6 + (wrap64 (1 + bt263.1)))) ≤ x4 then (if x5.length < 8796093022208 then ((spec_l01Cur_pick.f x1000 bt263.2.1 bt263.2.2 4).bind fun bt270 => (spec_l01Cur_live.l0 k x4 (x5 ++ [(⟨x6, wrap64 (1 + bt263.1)⟩ : S37)]) (wrap64 ((wrap64 (x6 + (wrap64 (1 + bt263.1)))) + bt270.1)) (wrap64 (x7 - 1)) x1000 bt270.2.1 bt270.2.2)) else (none)) else ((spec_l01Cur_pick.f x1000 bt263.2.1 bt263.2.2 4).bind fun bt273 => (spec_l01Cur_live.l0 k x4 x5 (wrap64 ((wrap64 (x6 + (wrap64 (1 + bt263.1)))) + bt273.1)) (wrap64 (x7 - 1)) x1000 bt273.2.1 bt273.2.2)))) else ((spec_l01Cur_pick.f x1000 x1001 x1002 14).bind fun bt276 => (if bt276.1 = 0 then ((spec_l01Cur_raw.f x1000 bt276.2.1 bt276.2.2).bind fun bt279 => ((some (([bt279.1, 256, 257] : List Int) : List Int)).bind fun y282 => ((spec_l01Cur_pick.f x1000 bt279.2.1 bt279.2.2 3).bind fun bt285 => (if 0 ≤ bt285.1 then (if bt285.1 < (y282.length : Int) then (some (x5, rd y282 bt285.1, bt285.2.1, bt285.2.2)) else (none)) else (none))))) else (if bt276.1 = 1 then ((spec_l01Cur_raw.f x1000 bt276.2.1 bt276.2.2).bind fun bt289 => ((spec_l01Cur_pick.f x1000 bt289.2.1 bt289.2.2 5).bind fun bt292 => (if x5.length < 8796093022208 then (some ((x5 ++ [(⟨bt289.1, bt292.1⟩ : S37)]), x4, bt292.2.1, bt292.2.2)) else (none)))) else (if bt276.1 = 2 then (if (x5.length : Int) > 0 then ((spec_l01Cur_pick.f x1000 bt276.2.1 bt276.2.2 (x5.length : Int)).bind fun bt298 => ((spec_l01Cur_raw.f x1000 bt298.2.1 bt298.2.2).bind fun bt301 => (if 0 ≤ bt298.1 then (if bt298.1 < (x5.length : Int) then (some ((x5.set (bt298.1 : Int).toNat (⟨(rd_T37 x5 bt298.1).f0, bt301.1⟩ : S37)), x4, bt301.2.1, bt301.2.2)) else (none)) else (none)))) else (some (x5, x4, bt276.2.1, bt276.2.2))) else (some (x5, x4, bt276.2.1, bt276.2.2))))))
def spec_l01Cur_live.f (k : Nat) (s0_0 : List Int) (s0_1 : Int) (s0_2 : Int) : Option ((List (S37)) × Int × Int × Int) := (spec_l01Cur_pick.f s0_0 s0_1 s0_2 5).bind fun bt251 => ((spec_l01Cur_pick.f s0_0 bt251.2.1 bt251.2.2 4).bind fun bt257 => ((spec_l01Cur_size.f s0_0 bt257.2.1 bt257.2.2 10).bind fun bt260 => (spec_l01Cur_live.l0 k (wrap64 (16 * bt251.1)) (([] : List (S37))) bt257.1 bt260.1 s0_0 bt260.2.1 bt260.2.2)))
theorem spec_l01Cur_live.mono_l : ∀ k, (∀ y0 y1 y2 y3 y4 y5 y6, LeO (spec_l01Cur_live.l0 k y0 y1 y2 y3 y4 y5 y6) (spec_l01Cur_live.l0 (k + 1) y0 y1 y2 y3 y4 y5 y6))
  | 0 => fun _ _ _ _ _ _ _ r h => by simp [spec_l01Cur_live.l0] at h
  | k + 1 => by
    have ih0 := spec_l01Cur_live.mono_l k
    · intro y0 y1 y2 y3 y4 y5 y6
      unfold spec_l01Cur_live.l0
      repeat' first
        | (with_reducible first | exact ih0 .. | exact LeO.refl _ | exact LeO.none _ | refine LeO.ite ?_ ?_ | refine LeO.bind ?_ (fun _ => ?_))
        | exact LeO.none _ | refine LeO.ite ?_ ?_ | refine LeO.bind ?_ (fun _ => ?_)
theorem spec_l01Cur_live.mono : ∀ a0 a1 a2 k, LeO (spec_l01Cur_live.f k a0 a1 a2) (spec_l01Cur_live.f (k + 1) a0 a1 a2) := by
  intro a0 a1 a2 k
  have ih0 := spec_l01Cur_live.mono_l k
  unfold spec_l01Cur_live.f
  repeat' first
    | (with_reducible first | exact ih0 .. | exact LeO.refl _ | exact LeO.none _ | refine LeO.ite ?_ ?_ | refine LeO.bind ?_ (fun _ => ?_))
    | exact LeO.none _ | refine LeO.ite ?_ ?_ | refine LeO.bind ?_ (fun _ => ?_)
def spec_l01Cur_live.T10 : Bool × List (List Nat × List Nat) := (true, [([], []), ([], []), ([1], [1]), ([0, 2], [0, 2]), ([], []), ([4], [4]), ([3, 5], [3, 5]), ([6, 5, 0, 1, 2, 3, 4, 5, 6], [0, 6])])
def spec_l01Cur_live.B10 : List Nat := [0, 0, 2, 7, 0, 16, 63, 127]
theorem spec_l01Cur_live.tab10 : rtab .any (opsOf Try.f32 10) = spec_l01Cur_live.T10 := kr
theorem spec_l01Cur_live.bits10 : waitsOk spec_l01Cur_live.T10.2 spec_l01Cur_live.B10 = true := kr
set_option maxHeartbeats 8000000 in
set_option maxRecDepth 100000 in
theorem spec_l01Cur_live.calls (k : Nat) (g : Nat) (s0_0 : List Int) (s0_1 : Int) (s0_2 : Int) (r1 : List (S37)) (r2 : Int) (r3 : Int) (r4 : Int) (w0 w : World) (hI : IsS82 w0 w g s0_0 s0_1 s0_2) (hB : Below w0.heap.size w0 w) (h : spec_l01Cur_live.f k s0_0 s0_1 s0_2 = some (r1, r2, r3, r4)) :
    Calls Try.prog 32 #[.pointer (some ⟨g, 0, none⟩)] w fun e w' => ∃ v0_ : Value, e = .returned (.tuple #[v0_, .int .i64 r2]) ∧ Kd.R k37 37 w' w.heap.size (fun _ => True) v0_ r1 ∧ IsS82 w0 w' g s0_0 r3 r4 ∧ Below w0.heap.size w0 w' ∧ KeepBut w w' g none := by
  have hu37 := Try.underlying37
  have HI0 := Aside0.mk hI
  have HK := Aside0.mk (KeepBut.refl w g none)
  have HL := Aside0.mk hB.size
  clear hI
  have HW0 := Aside0.mk hB.size
  have HB := Aside0.mk hB
  clear hB
  unfold spec_l01Cur_live.f at h
  have H := h
  clear h
  replace H := bn H
  obtain ⟨⟨t251, t252, t253⟩, A2, H⟩ := H
  try dsimp only at H
  obtain ⟨y254, hy254⟩ : ∃ y_ : List (S37), y_ = (([] : List (S37))) := ⟨_, rfl⟩
  rw [← hy254] at H
  try with_reducible replace H := bs H
  have Ny254 := Aside0.mk hy254
  clear hy254
  replace H := bn H
  obtain ⟨⟨t257, t258, t259⟩, A3, H⟩ := H
  try dsimp only at H
  replace H := bn H
  obtain ⟨⟨t260, t261, t262⟩, A4, H⟩ := H
  try dsimp only at H
  have H' := Aside0.mk H
  clear H
  go_enter Try.func32, Try.ntmps32
  go_wp2_with (first | ((with_reducible refine gf 33 ?_); refine gl 33 Try.func33 (some 10) #[.pointer (some ⟨g, 0, none⟩), .int .i64 5] ?_; (with_reducible refine (spec_l01Cur_pick.calls _ _ _ _ _ _ _ _ w0 _ ?side1 ?side2 A2.out).mono ?_); (case side1 => repeat (first | (with_reducible first | exact HI0.out | apply IsS82.alloc | apply IsS82.drewN | apply IsS82.drew | apply IsS82.set_1 | apply IsS82.set_2) | exact HI0.out)); (case side2 => repeat (first | (with_reducible first | exact HB.out | apply below_alloc | apply pw_below_drewN | apply below_drew1 | refine below_set ?_ (IsS82.ge HI0.out)) | exact HB.out)); rintro e w5 ⟨rfl, hi, hb, hk⟩; refine ⟨_, rfl, ?_⟩; replace HK := Aside0.mk (KeepBut.trans (by repeat (first | (with_reducible first | exact HK.out | apply KeepBut.set_ | apply keep_drewN | apply keep_drew | apply keep_alloc) | exact HK.out)) hk (.inl rfl)); replace HI0 := Aside0.mk (hi); replace HB := Aside0.mk (hb); try clear hb) | ((with_reducible refine gate_dst (N := 12) rfl ?_); refine Kd.R_lit k37 _ 37 ?hg (N := 12) ?hd (xs := ([] : List (S37))) (inner := []) (ok := fun _ => True) (okp := fun _ => True) ?hr ?hp (fun _ hk => hk) trivial (Below.refl _ _) (Nat.le_refl _) (by simp) ?_; (case hd => rfl); (case hg => rfl); (case hr => first | (go_simp; done) | (go_simp; rfl)); (case hp => exact (Reps.none _ _)); intro v255 w6 ho7 hb hg_ hnew_; clear hg_ hnew_; (first | rw [← Ny254.out] at ho7 | (simp only [Int.reduceToNat] at ho7; rw [← Ny254.out] at ho7)); have HO256 := Aside0.mk (Kd.R_lower ho7 (keep_size (w := w) (g := g) (row := none) (by repeat (first | (with_reducible first | exact HK.out | apply KeepBut.set_ | apply keep_drewN | apply keep_drew | apply keep_alloc) | exact HK.out)))); replace HK := Aside0.mk (KeepBut.trans (by repeat (first | (with_reducible first | exact HK.out | apply KeepBut.set_ | apply keep_drewN | apply keep_drew | apply keep_alloc) | exact HK.out)) (KeepBut.of_below hb g none) (.inl rfl)); replace HB := Aside0.mk (below_step (by repeat (first | (with_reducible first | exact HB.out | apply below_alloc | apply pw_below_drewN | apply below_drew1 | refine below_set ?_ (IsS82.ge HI0.out)) | exact HB.out)) hb); replace HI0 := Aside0.mk (IsS82.below (by repeat (first | (with_reducible first | exact HI0.out | apply IsS82.alloc | apply IsS82.drewN | apply IsS82.drew | apply IsS82.set_1 | apply IsS82.set_2) | exact HI0.out)) hb); clear hb ho7) | ((with_reducible refine gf 33 ?_); refine gl 33 Try.func33 (some 14) #[.pointer (some ⟨g, 0, none⟩), .int .i64 4] ?_; (with_reducible refine (spec_l01Cur_pick.calls _ _ _ _ _ _ _ _ w0 _ ?side1 ?side2 A3.out).mono ?_); (case side1 => repeat (first | (with_reducible first | exact HI0.out | apply IsS82.alloc | apply IsS82.drewN | apply IsS82.drew | apply IsS82.set_1 | apply IsS82.set_2) | exact HI0.out)); (case side2 => repeat (first | (with_reducible first | exact HB.out | apply below_alloc | apply pw_below_drewN | apply below_drew1 | refine below_set ?_ (IsS82.ge HI0.out)) | exact HB.out)); rintro e w8 ⟨rfl, hi, hb, hk⟩; refine ⟨_, rfl, ?_⟩; replace HO256 := Aside0.mk (Kd.R_mono (Kd.R_keep (IsS82.apart (show IsS82 w0 _ g s0_0 t252 t253 from by repeat (first | (with_reducible first | exact HI0.out | apply IsS82.alloc | apply IsS82.drewN | apply IsS82.drew | apply IsS82.set_1 | apply IsS82.set_2) | exact HI0.out)) (ro HO256) (by decide)) hk (fun _ h => h.2)) (fun _ h => h.1)); replace HK := Aside0.mk (KeepBut.trans (by repeat (first | (with_reducible first | exact HK.out | apply KeepBut.set_ | apply keep_drewN | apply keep_drew | apply keep_alloc) | exact HK.out)) hk (.inl rfl)); replace HI0 := Aside0.mk (hi); replace HB := Aside0.mk (hb); try clear hb) | ((with_reducible refine gf 53 ?_); refine gl 53 Try.func53 (some 16) #[.pointer (some ⟨g, 0, none⟩), .int .i64 10] ?_; (with_reducible refine (spec_l01Cur_size.calls _ _ _ _ _ _ _ _ w0 _ ?side1 ?side2 A4.out).mono ?_); (case side1 => repeat (first | (with_reducible first | exact HI0.out | apply IsS82.alloc | apply IsS82.drewN | apply IsS82.drew | apply IsS82.set_1 | apply IsS82.set_2) | exact HI0.out)); (case side2 => repeat (first | (with_reducible first | exact HB.out | apply below_alloc | apply pw_below_drewN | apply below_drew1 | refine below_set ?_ (IsS82.ge HI0.out)) | exact HB.out)); rintro e w9 ⟨rfl, hi, hb, hk⟩; refine ⟨_, rfl, ?_⟩; replace HO256 := Aside0.mk (Kd.R_mono (Kd.R_keep (IsS82.apart (show IsS82 w0 _ g s0_0 t258 t259 from by repeat (first | (with_reducible first | exact HI0.out | apply IsS82.alloc | apply IsS82.drewN | apply IsS82.drew | apply IsS82.set_1 | apply IsS82.set_2) | exact HI0.out)) (ro HO256) (by decide)) hk (fun _ h => h.2)) (fun _ h => h.1)); replace HK := Aside0.mk (KeepBut.trans (by repeat (first | (with_reducible first | exact HK.out | apply KeepBut.set_ | apply keep_drewN | apply keep_drew | apply keep_alloc) | exact HK.out)) hk (.inl rfl)); replace HI0 := Aside0.mk (hi); replace HB := Aside0.mk (hb); try clear hb))
  go_loopg [5, 6, 7] k (fun kq v5 v6 v7 w' => ∃ (x5_1 : List (S37)) (x6_1 : Int) (x7_1 : Int) (x1001_1 : Int) (x1002_1 : Int), v6 = .int .i64 x6_1 ∧ v7 = .int .i64 x7_1 ∧ Aside0 (spec_l01Cur_live.l0 kq (wrap64 (16 * t251)) x5_1 x6_1 x7_1 s0_0 x1001_1 x1002_1 = some (r1, r2, r3, r4)) ∧ Aside0 (kq ≤ k) ∧ Aside0 (Kd.R k37 37 w' w.heap.size (fun _ => True) v5 x5_1) ∧ Aside0 (IsS82 w0 w' g s0_0 x1001_1 x1002_1) ∧ Aside0 (KeepBut w w' g none) ∧ Aside0 (Below w0.heap.size w0 w'))
  case atStart => exact ⟨(y254), (t257), (t260), (t261), (t262), ev, ev, H', ⟨Nat.le_refl _⟩, ⟨ro HO256⟩, ⟨by repeat (first | (with_reducible first | exact HI0.out | apply IsS82.alloc | apply IsS82.drewN | apply IsS82.drew | apply IsS82.set_1 | apply IsS82.set_2) | exact HI0.out)⟩, ⟨by repeat (first | (with_reducible first | exact HK.out | apply KeepBut.set_ | apply keep_drewN | apply keep_drew | apply keep_alloc) | exact HK.out)⟩, ⟨by repeat (first | (with_reducible first | exact HB.out | apply below_alloc | apply pw_below_drewN | apply below_drew1 | refine below_set ?_ (IsS82.ge HI0.out)) | exact HB.out)⟩⟩
  case round =>
    clear H'
    obtain ⟨x5_1, x6_1, x7_1, x1001_1, x1002_1, rfl, rfl, HA, HK1, HO_5, HI0, HK, HB⟩ := hrel
    cases gk with
    | zero => exact absurd HA.out (by simp [spec_l01Cur_live.l0])
    | succ k1 =>
      have H := HA.out
      clear HA
      simp only [spec_l01Cur_live.l0] at H
      replace H := igt H
      rcases H with ⟨c10b0, H⟩ | ⟨c10b0, H⟩
      · replace H := bn H
        obtain ⟨⟨t263, t264, t265⟩, A11, H⟩ := H
        try dsimp only at H
        have HU12 := Aside0.mk H
        clear H
        go_upto_if 32 with (first | ((with_reducible refine gf 33 ?_); refine gl 33 Try.func33 (some 23) #[.pointer (some ⟨g, 0, none⟩), .int .i64 6] ?_; (with_reducible refine (spec_l01Cur_pick.calls _ _ _ _ _ _ _ _ w0 _ ?side1 ?side2 A11.out).mono ?_); (case side1 => repeat (first | (with_reducible first | exact HI0.out | apply IsS82.alloc | apply IsS82.drewN | apply IsS82.drew | apply IsS82.set_1 | apply IsS82.set_2) | exact HI0.out)); (case side2 => repeat (first | (with_reducible first | exact HB.out | apply below_alloc | apply pw_below_drewN | apply below_drew1 | refine below_set ?_ (IsS82.ge HI0.out)) | exact HB.out)); rintro e w13 ⟨rfl, hi, hb, hk⟩; refine ⟨_, rfl, ?_⟩; replace HO_5 := Aside0.mk (Kd.R_mono (Kd.R_keep (IsS82.apart (show IsS82 w0 _ g s0_0 x1001_1 x1002_1 from by repeat (first | (with_reducible first | exact HI0.out | apply IsS82.alloc | apply IsS82.drewN | apply IsS82.drew | apply IsS82.set_1 | apply IsS82.set_2) | exact HI0.out)) (ro HO_5) (by decide)) hk (fun _ h => h.2)) (fun _ h => h.1)); replace HK := Aside0.mk (KeepBut.trans (by repeat (first | (with_reducible first | exact HK.out | apply KeepBut.set_ | apply keep_drewN | apply keep_drew | apply keep_alloc) | exact HK.out)) hk (.inl rfl)); replace HI0 := Aside0.mk (hi); replace HB := Aside0.mk (hb); try clear hb) | ((with_reducible refine gd 8 ?_); refine bx0 8 37 #[.int .i64 0, .int .i64 0] ?_; intro gb266 hg w14 hbox hb; replace HO_5 := Aside0.mk (Kd.R_below (Kd.R_elderB (ro HO_5) gb266 (Nat.le_of_eq hg.symm)) hb); have BK266 := Aside0.mk hbox; have GW266 := Aside0.mk ((by rw [hg]; exact (keep_size (w := w) (g := g) (row := none) (by repeat (first | (with_reducible first | exact HK.out | apply KeepBut.set_ | apply keep_drewN | apply keep_drew | apply keep_alloc) | exact HK.out))) : w.heap.size ≤ gb266)); have GE266 := Aside0.mk ((Nat.le_trans HW0.out (by rw [hg]; exact (keep_size (w := w) (g := g) (row := none) (by repeat (first | (with_reducible first | exact HK.out | apply KeepBut.set_ | apply keep_drewN | apply keep_drew | apply keep_alloc) | exact HK.out))) : w.heap.size ≤ gb266) : w0.heap.size ≤ gb266)); replace HK := Aside0.mk (KeepBut.trans (by repeat (first | (with_reducible first | exact HK.out | apply KeepBut.set_ | apply keep_drewN | apply keep_drew | apply keep_alloc) | exact HK.out)) (KeepBut.of_below hb g none) (.inl rfl)); have NB0_266 := Aside0.mk ((by rw [hg]; exact Nat.ne_of_lt (IsS82.lt (show IsS82 w0 _ g s0_0 t264 t265 from by repeat (first | (with_reducible first | exact HI0.out | apply IsS82.alloc | apply IsS82.drewN | apply IsS82.drew | apply IsS82.set_1 | apply IsS82.set_2) | exact HI0.out))) : g ≠ gb266)); have NB266_0 := Aside0.mk ((by rw [hg]; exact Nat.ne_of_gt (IsS82.lt (show IsS82 w0 _ g s0_0 t264 t265 from by repeat (first | (with_reducible first | exact HI0.out | apply IsS82.alloc | apply IsS82.drewN | apply IsS82.drew | apply IsS82.set_1 | apply IsS82.set_2) | exact HI0.out))) : gb266 ≠ g)); replace HB := Aside0.mk (below_step (by repeat (first | (with_reducible first | exact HB.out | apply below_alloc | apply pw_below_drewN | apply below_drew1 | refine below_set ?_ (IsS82.ge HI0.out)) | exact HB.out)) hb); replace HI0 := Aside0.mk (IsS82.below (by repeat (first | (with_reducible first | exact HI0.out | apply IsS82.alloc | apply IsS82.drewN | apply IsS82.drew | apply IsS82.set_1 | apply IsS82.set_2) | exact HI0.out)) hb); clear hb hbox hg; have hnb15 := NB266_0.out; have hnc15 := NB0_266.out; obtain ⟨z16_0, z16_1⟩ := ca2 BK266; obtain ⟨f16_0, f16_1⟩ := fa2 BK266))
        (try refine ap ?_)
        have H := HU12.out
        clear HU12
        replace H := ile H
        rcases H with ⟨c17b0, H⟩ | ⟨c17b0, H⟩
        · (first | rw [c17b0] | (simp only [i64_w, i32_w]; rw [c17b0]) | (simp only [c17b2, Bool.not_true, Bool.not_false]) | (simp only [c17b1, Bool.not_true, Bool.not_false]) | skip)
          by_cases c18 : x5_1.length < 8796093022208
          · rw [if_pos c18] at H
            have LMc18 := Aside0.mk c18
            clear c18
            obtain ⟨y267, hy267⟩ : ∃ y_ : List (S37), y_ = (x5_1 ++ [(⟨x6_1, wrap64 (1 + t263)⟩ : S37)]) := ⟨_, rfl⟩
            rw [← hy267] at H
            try with_reducible replace H := bs H
            have Ny267 := Aside0.mk hy267
            clear hy267
            replace H := bn H
            obtain ⟨⟨t270, t271, t272⟩, A19, H⟩ := H
            try dsimp only at H
            have H' := Aside0.mk H
            clear H
            have hnb20 := NB266_0.out
            have hnc20 := NB0_266.out
            obtain ⟨z21_0, z21_1⟩ := ca2 BK266
            obtain ⟨f21_0, f21_1⟩ := fa2 BK266
            try go_wp2_with (first | ((with_reducible refine gate_builtin (b := .append) (xs := #[.tmp 33, .tmp 35]) rfl ?_); at_builtin; refine Kd.R_append k37 w.heap.size rfl (.tmp 33) (.tmp 35) 35 37 (.agg #[(.int .i64 0), (.int .i64 0)]) 16 rfl Try.underlying35 info37 rfl (by decide) (by omega) u5 x5_1 (⟨x6_1, wrap64 (1 + t263)⟩ : S37) [.int .i64 x6_1, .int .i64 (wrap64 (1 + t263))] (fun k_ => k_ ≠ gb266) (fun _ => False) rfl (by first | (go_simp; done) | (go_simp; rfl)) ?aP (fun _ hk => hk.elim) ?aF ?aO (Below.refl _ _) ?aS ?aL ?_; (case aP => exact k37_mkM _ _ _ (⟨x6_1, wrap64 (1 + t263)⟩ : S37)); (case aF => exact (fun k_ hk => Kd.freshB (g := gb266) (o := .cells #[.int .i64 x6_1, .int .i64 (wrap64 (1 + t263))] 37 (0, 0)) (bp BK266) k_ hk)); (case aO => exact (by (with_reducible repeat (first | apply Kd.R_alloc | apply Kd.R_drewN | apply Kd.R_drew)); exact Kd.R_mono (Kd.R_far (p := ⟨gb266, 1, none⟩) (Kd.R_far (p := ⟨gb266, 0, none⟩) (Kd.R_mono HO_5.out (fun k_ hk => (⟨hk, hk.2⟩ : _ ∧ k_ ≠ gb266))) (fun _ hk => hk.2) (.int .i64 x6_1)) (fun _ hk => hk.2) (.int .i64 (wrap64 (1 + t263)))) (fun _ hk => hk.1.2))); (case aS => exact (keep_size (w := w) (g := g) (row := none) (by repeat (first | (with_reducible first | exact HK.out | apply KeepBut.set_ | apply keep_drewN | apply keep_drew | apply keep_alloc | refine keep_far ?_ GW266.out _) | exact HK.out)))); (case aL => have := LMc18.out; omega); intro v268 w22 ho hb hg hat; rw [← Ny267.out] at ho; replace BK266 := Aside0.mk (blk_grown (g := gb266) (o := .cells #[.int .i64 x6_1, .int .i64 (wrap64 (1 + t263))] 37 (0, 0)) (bp BK266) hg (Kd.R_away HO_5.out (fun _ hk => hk.2))); replace HK := Aside0.mk (KeepBut.trans (by repeat (first | (with_reducible first | exact HK.out | apply KeepBut.set_ | apply keep_drewN | apply keep_drew | apply keep_alloc | refine keep_far ?_ GW266.out _) | exact HK.out)) (KeepBut.of_grown hg g) (Kd.R_base2 HO_5.out)); have HO269 := Aside0.mk (ho); replace HB := Aside0.mk (below_weaken (by repeat (first | (with_reducible first | exact HB.out | apply below_alloc | apply pw_below_drewN | apply below_drew1 | refine below_set ?_ (IsS82.ge HI0.out) | refine below_set ?_ GE266.out) | exact HB.out)) HL.out hb); replace HI0 := Aside0.mk (IsS82.grown (IsS82.far (IsS82.far HI0.out NB0_266.out _) NB0_266.out _) hg (IsS82.own_ne HI0.out HO_5.out (by decide))); clear HO_5; clear ho hb hg hat))
            replace HO269 := Aside0.mk (Kd.R_drew HO269.out)
            replace BK266 := bd BK266
            replace HI0 := Aside0.mk (IsS82.drew HI0.out)
            replace HK := Aside0.mk (keep_drew HK.out)
            replace HB := hd HB
            refine st 8 (fun w' => CA w' gb266 0 [.int .i64 x6_1, .int .i64 (wrap64 (1 + t263))]) [] (cx BK266) spec_l01Cur_live.tab10 spec_l01Cur_live.bits10 ?_; intro hHeld HT_ HW_
            generalize w22.drew = w23 at HO269 BK266 HI0 HK HB hHeld ⊢
            refine pu 0 37 (bl 8 1) ?_
            refine pu 1 38 (bl 8 3) ?_
            refine pu 4 41 (bl 8 19) ?_
            refine tk 2 39 (bl 8 23) ?_
            refine pu 3 40 (bl 8 31) ?_
            refine on_ 5 (some 42) (bl 8 63) (fun K hK => ?_)
            refine gg Try.func33 #[.pointer (some ⟨g, 0, none⟩), .int .i64 4] ?_
            with_reducible refine (spec_l01Cur_pick.calls _ _ _ _ _ _ _ _ w0 _ ?side1 ?side2 A19.out).mono ?_
            (case side1 => repeat (first | (with_reducible first | exact HI0.out | apply IsS82.alloc | apply IsS82.drewN | apply IsS82.drew | apply IsS82.set_1 | apply IsS82.set_2 | refine IsS82.far ?_ NB0_266.out _) | exact HI0.out))
            (case side2 => repeat (first | (with_reducible first | exact HB.out | apply below_alloc | apply pw_below_drewN | apply below_drew1 | refine below_set ?_ (IsS82.ge HI0.out) | refine below_set ?_ GE266.out) | exact HB.out))
            rintro e w24 ⟨rfl, hi, hb, hk⟩
            refine ⟨_, rfl, ?_⟩
            replace BK266 := Aside0.mk (KeepBut.blk hk (g' := gb266) (o := .cells #[.int .i64 x6_1, .int .i64 (wrap64 (1 + t263))] 37 (0, 0)) (bk BK266) NB266_0.out (by simp))
            replace HO269 := Aside0.mk (Kd.R_mono (Kd.R_keep (IsS82.apart (show IsS82 w0 _ g s0_0 t264 t265 from by repeat (first | (with_reducible first | exact HI0.out | apply IsS82.alloc | apply IsS82.drewN | apply IsS82.drew | apply IsS82.set_1 | apply IsS82.set_2 | refine IsS82.far ?_ NB0_266.out _) | exact HI0.out)) (ro HO269) (by decide)) hk (fun _ h => h.2)) (fun _ h => h.1))
            replace HK := Aside0.mk (KeepBut.trans (by repeat (first | (with_reducible first | exact HK.out | apply KeepBut.set_ | apply keep_drewN | apply keep_drew | apply keep_alloc | refine keep_far ?_ GW266.out _) | exact HK.out)) hk (.inl rfl))
            replace HI0 := Aside0.mk (hi)
            replace HB := Aside0.mk (hb)
            (try clear hb)
            (try clear hb2)
            (try clear hk)
            (try clear hi)
            refine hK.out _ _ (cx BK266) (fun hHeld => ?_)
            clear hK K
            refine nm ?_
            refine pu 6 43 (bl 8 127) ?_
            refine pu 7 6 (bl 8 255) ?_
            refine dn ?_ _
            try go_wp2
            go_roundg k1
            case measure => have := HK1.out; omega
            case rel => exact ⟨(y267), (wrap64 ((wrap64 (x6_1 + (wrap64 (1 + t263)))) + t270)), (wrap64 (x7_1 - 1)), (t271), (t272), ev, ev, H', ⟨oa HK1⟩, ⟨by (with_reducible repeat (first | apply Kd.R_alloc | apply Kd.R_drewN | apply Kd.R_drew)); exact Kd.R_mono HO269.out (fun _ hk => trivial)⟩, ⟨by repeat (first | (with_reducible first | exact HI0.out | apply IsS82.alloc | apply IsS82.drewN | apply IsS82.drew | apply IsS82.set_1 | apply IsS82.set_2 | refine IsS82.far ?_ NB0_266.out _) | exact HI0.out)⟩, ⟨by repeat (first | (with_reducible first | exact HK.out | apply KeepBut.set_ | apply keep_drewN | apply keep_drew | apply keep_alloc | refine keep_far ?_ GW266.out _) | exact HK.out)⟩, ⟨by repeat (first | (with_reducible first | exact HB.out | apply below_alloc | apply pw_below_drewN | apply below_drew1 | refine below_set ?_ (IsS82.ge HI0.out) | refine below_set ?_ GE266.out) | exact HB.out)⟩⟩
          · rw [if_neg c18] at H
            exact absurd H (by simp)
        · (first | rw [c17b0] | (simp only [i64_w, i32_w]; rw [c17b0]) | (simp only [c17b2, Bool.not_true, Bool.not_false]) | (simp only [c17b1, Bool.not_true, Bool.not_false]) | skip)
          replace H := bn H
          obtain ⟨⟨t273, t274, t275⟩, A25, H⟩ := H
          try dsimp only at H
          have H' := Aside0.mk H
          clear H
          try go_wp2
          have n0_ : Aside0 (Kd.R k37 37 ((w14.setCell ⟨gb266, 0, none⟩ (.int .i64 x6_1)).setCell ⟨gb266, 1, none⟩ (.int .i64 (wrap64 (1 + t263)))) w.heap.size (fun k_ => k_ ≠ gb266) u5 x5_1) := ⟨by (with_reducible repeat (first | apply Kd.R_alloc | apply Kd.R_drewN | apply Kd.R_drew)); exact Kd.R_mono (Kd.R_far (p := ⟨gb266, 1, none⟩) (Kd.R_far (p := ⟨gb266, 0, none⟩) (Kd.R_mono HO_5.out (fun k_ hk => (⟨hk, hk.2⟩ : _ ∧ k_ ≠ gb266))) (fun _ hk => hk.2) (.int .i64 x6_1)) (fun _ hk => hk.2) (.int .i64 (wrap64 (1 + t263)))) (fun _ hk => hk.1.2)⟩
          have n1_ : Aside0 (((w14.setCell ⟨gb266, 0, none⟩ (.int .i64 x6_1)).setCell ⟨gb266, 1, none⟩ (.int .i64 (wrap64 (1 + t263)))).heap[gb266]? = some (.cells #[.int .i64 x6_1, .int .i64 (wrap64 (1 + t263))] 37 (0, 0))) := ⟨bp BK266⟩
          have n2_ : Aside0 (IsS82 w0 ((w14.setCell ⟨gb266, 0, none⟩ (.int .i64 x6_1)).setCell ⟨gb266, 1, none⟩ (.int .i64 (wrap64 (1 + t263)))) g s0_0 t264 t265) := ⟨by repeat (first | (with_reducible first | exact HI0.out | apply IsS82.alloc | apply IsS82.drewN | apply IsS82.drew | apply IsS82.set_1 | apply IsS82.set_2 | refine IsS82.far ?_ NB0_266.out _) | exact HI0.out)⟩
          have n3_ : Aside0 (KeepBut w ((w14.setCell ⟨gb266, 0, none⟩ (.int .i64 x6_1)).setCell ⟨gb266, 1, none⟩ (.int .i64 (wrap64 (1 + t263)))) g none) := ⟨by repeat (first | (with_reducible first | exact HK.out | apply KeepBut.set_ | apply keep_drewN | apply keep_drew | apply keep_alloc | refine keep_far ?_ GW266.out _) | exact HK.out)⟩
          have n4_ : Aside0 (Below w0.heap.size w0 ((w14.setCell ⟨gb266, 0, none⟩ (.int .i64 x6_1)).setCell ⟨gb266, 1, none⟩ (.int .i64 (wrap64 (1 + t263))))) := ⟨by repeat (first | (with_reducible first | exact HB.out | apply below_alloc | apply pw_below_drewN | apply below_drew1 | refine below_set ?_ (IsS82.ge HI0.out) | refine below_set ?_ GE266.out) | exact HB.out)⟩
          (try clear HO_5)
          (try clear BK266)
          (try clear HI0)
          (try clear HK)
          (try clear HB)
          generalize ((w14.setCell ⟨gb266, 0, none⟩ (.int .i64 x6_1)).setCell ⟨gb266, 1, none⟩ (.int .i64 (wrap64 (1 + t263)))) = w26 at n0_ n1_ n2_ n3_ n4_ ⊢
          have HO_5 := n0_
          have BK266 := n1_
          have HI0 := n2_
          have HK := n3_
          have HB := n4_
          clear n0_ n1_ n2_ n3_ n4_
          replace HO_5 := Aside0.mk (Kd.R_drew HO_5.out)
          replace BK266 := bd BK266
          replace HI0 := Aside0.mk (IsS82.drew HI0.out)
          replace HK := Aside0.mk (keep_drew HK.out)
          replace HB := hd HB
          refine st 8 (fun w' => CA w' gb266 0 [.int .i64 x6_1, .int .i64 (wrap64 (1 + t263))]) [] (cx BK266) spec_l01Cur_live.tab10 spec_l01Cur_live.bits10 ?_; intro hHeld HT_ HW_
          generalize w26.drew = w27 at HO_5 BK266 HI0 HK HB hHeld ⊢
          refine pu 0 37 (bl 8 1) ?_
          refine pu 1 38 (bl 8 3) ?_
          refine pu 4 41 (bl 8 19) ?_
          refine tk 2 39 (bl 8 23) ?_
          refine pu 3 40 (bl 8 31) ?_
          refine on_ 5 (some 42) (bl 8 63) (fun K hK => ?_)
          refine gg Try.func33 #[.pointer (some ⟨g, 0, none⟩), .int .i64 4] ?_
          with_reducible refine (spec_l01Cur_pick.calls _ _ _ _ _ _ _ _ w0 _ ?side1 ?side2 A25.out).mono ?_
          (case side1 => repeat (first | (with_reducible first | exact HI0.out | apply IsS82.alloc | apply IsS82.drewN | apply IsS82.drew | apply IsS82.set_1 | apply IsS82.set_2 | refine IsS82.far ?_ NB0_266.out _) | exact HI0.out))
          (case side2 => repeat (first | (with_reducible first | exact HB.out | apply below_alloc | apply pw_below_drewN | apply below_drew1 | refine below_set ?_ (IsS82.ge HI0.out) | refine below_set ?_ GE266.out) | exact HB.out))
          rintro e w28 ⟨rfl, hi, hb, hk⟩
          refine ⟨_, rfl, ?_⟩
          replace HO_5 := Aside0.mk (Kd.R_mono (Kd.R_keep (IsS82.apart (show IsS82 w0 _ g s0_0 t264 t265 from by repeat (first | (with_reducible first | exact HI0.out | apply IsS82.alloc | apply IsS82.drewN | apply IsS82.drew | apply IsS82.set_1 | apply IsS82.set_2 | refine IsS82.far ?_ NB0_266.out _) | exact HI0.out)) (ro HO_5) (by decide)) hk (fun _ h => h.2)) (fun _ h => h.1))
          replace BK266 := Aside0.mk (KeepBut.blk hk (g' := gb266) (o := .cells #[.int .i64 x6_1, .int .i64 (wrap64 (1 + t263))] 37 (0, 0)) (bk BK266) NB266_0.out (by simp))
          replace HK := Aside0.mk (KeepBut.trans (by repeat (first | (with_reducible first | exact HK.out | apply KeepBut.set_ | apply keep_drewN | apply keep_drew | apply keep_alloc | refine keep_far ?_ GW266.out _) | exact HK.out)) hk (.inl rfl))
          replace HI0 := Aside0.mk (hi)
          replace HB := Aside0.mk (hb)
          (try clear hb)
          (try clear hb2)
          (try clear hk)
          (try clear hi)
          refine hK.out _ _ (cx BK266) (fun hHeld => ?_)
          clear hK K
          refine nm ?_
          refine pu 6 43 (bl 8 127) ?_
          refine pu 7 6 (bl 8 255) ?_
          refine dn ?_ _
          try go_wp2
          go_roundg k1
          case measure => have := HK1.out; omega
          case rel => exact ⟨(x5_1), (wrap64 ((wrap64 (x6_1 + (wrap64 (1 + t263)))) + t273)), (wrap64 (x7_1 - 1)), (t274), (t275), ev, ev, H', ⟨oa HK1⟩, ⟨by (with_reducible repeat (first | apply Kd.R_alloc | apply Kd.R_drewN | apply Kd.R_drew)); exact Kd.R_mono HO_5.out (fun _ hk => trivial)⟩, ⟨by repeat (first | (with_reducible first | exact HI0.out | apply IsS82.alloc | apply IsS82.drewN | apply IsS82.drew | apply IsS82.set_1 | apply IsS82.set_2 | refine IsS82.far ?_ NB0_266.out _) | exact HI0.out)⟩, ⟨by repeat (first | (with_reducible first | exact HK.out | apply KeepBut.set_ | apply keep_drewN | apply keep_drew | apply keep_alloc | refine keep_far ?_ GW266.out _) | exact HK.out)⟩, ⟨by repeat (first | (with_reducible first | exact HB.out | apply below_alloc | apply pw_below_drewN | apply below_drew1 | refine below_set ?_ (IsS82.ge HI0.out) | refine below_set ?_ GE266.out) | exact HB.out)⟩⟩
      · replace H := bn H
        obtain ⟨⟨t276, t277, t278⟩, A29, H⟩ := H
        try dsimp only at H
        have HU30 := Aside0.mk H
        clear H
        go_upto_if 46 with (first | ((with_reducible refine gf 33 ?_); refine gl 33 Try.func33 (some 45) #[.pointer (some ⟨g, 0, none⟩), .int .i64 14] ?_; (with_reducible refine (spec_l01Cur_pick.calls _ _ _ _ _ _ _ _ w0 _ ?side1 ?side2 A29.out).mono ?_); (case side1 => repeat (first | (with_reducible first | exact HI0.out | apply IsS82.alloc | apply IsS82.drewN | apply IsS82.drew | apply IsS82.set_1 | apply IsS82.set_2) | exact HI0.out)); (case side2 => repeat (first | (with_reducible first | exact HB.out | apply below_alloc | apply pw_below_drewN | apply below_drew1 | refine below_set ?_ (IsS82.ge HI0.out)) | exact HB.out)); rintro e w31 ⟨rfl, hi, hb, hk⟩; refine ⟨_, rfl, ?_⟩; replace HO_5 := Aside0.mk (Kd.R_mono (Kd.R_keep (IsS82.apart (show IsS82 w0 _ g s0_0 x1001_1 x1002_1 from by repeat (first | (with_reducible first | exact HI0.out | apply IsS82.alloc | apply IsS82.drewN | apply IsS82.drew | apply IsS82.set_1 | apply IsS82.set_2) | exact HI0.out)) (ro HO_5) (by decide)) hk (fun _ h => h.2)) (fun _ h => h.1)); replace HK := Aside0.mk (KeepBut.trans (by repeat (first | (with_reducible first | exact HK.out | apply KeepBut.set_ | apply keep_drewN | apply keep_drew | apply keep_alloc) | exact HK.out)) hk (.inl rfl)); replace HI0 := Aside0.mk (hi); replace HB := Aside0.mk (hb); try clear hb))
        (try refine ap ?_)
        have H := HU30.out
        clear HU30
        replace H := ieq H
        rcases H with ⟨c32b0, c32b1, H⟩ | ⟨c32, c32b0, c32b1, H⟩
        · (first | rw [c32b0] | (simp only [i64_w, i32_w]; rw [c32b0]) | (simp only [c32b2, Bool.not_true, Bool.not_false]) | (simp only [c32b1, Bool.not_true, Bool.not_false]) | skip)
          replace H := bn H
          obtain ⟨⟨t279, t280, t281⟩, A33, H⟩ := H
          try dsimp only at H
          obtain ⟨y282, hy282⟩ : ∃ y_ : List Int, y_ = (([t279, 256, 257] : List Int)) := ⟨_, rfl⟩
          rw [← hy282] at H
          try with_reducible replace H := bs H
          have Ny282 := Aside0.mk hy282
          clear hy282
          replace H := bn H
          obtain ⟨⟨t285, t286, t287⟩, A34, H⟩ := H
          try dsimp only at H
          by_cases c35 : 0 ≤ t285
          · rw [if_pos c35] at H
            have c35b0 : decide (0 ≤ t285) = true := decide_eq_true c35
            clear c35
            by_cases c36 : t285 < (y282.length : Int)
            · rw [if_pos c36] at H
              have c36b0 : decide (t285 < (y282.length : Int)) = true := decide_eq_true c36
              clear c36
              simp only [Option.some.injEq, Prod.mk.injEq] at H
              obtain ⟨rfl, rfl, rfl, rfl⟩ := H
              go_wp2_with (first | ((with_reducible refine gf 36 ?_); refine gl 36 Try.func36 (some 49) #[.pointer (some ⟨g, 0, none⟩)] ?_; (with_reducible refine (spec_l01Cur_raw.calls _ _ _ _ _ _ _ w0 _ ?side1 ?side2 A33.out).mono ?_); (case side1 => repeat (first | (with_reducible first | exact HI0.out | apply IsS82.alloc | apply IsS82.drewN | apply IsS82.drew | apply IsS82.set_1 | apply IsS82.set_2) | exact HI0.out)); (case side2 => repeat (first | (with_reducible first | exact HB.out | apply below_alloc | apply pw_below_drewN | apply below_drew1 | refine below_set ?_ (IsS82.ge HI0.out)) | exact HB.out)); rintro e w37 ⟨rfl, hi, hb, hk⟩; refine ⟨_, rfl, ?_⟩; replace HO_5 := Aside0.mk (Kd.R_mono (Kd.R_keep (IsS82.apart (show IsS82 w0 _ g s0_0 t277 t278 from by repeat (first | (with_reducible first | exact HI0.out | apply IsS82.alloc | apply IsS82.drewN | apply IsS82.drew | apply IsS82.set_1 | apply IsS82.set_2) | exact HI0.out)) (ro HO_5) (by decide)) hk (fun _ h => h.2)) (fun _ h => h.1)); replace HK := Aside0.mk (KeepBut.trans (by repeat (first | (with_reducible first | exact HK.out | apply KeepBut.set_ | apply keep_drewN | apply keep_drew | apply keep_alloc) | exact HK.out)) hk (.inl rfl)); replace HI0 := Aside0.mk (hi); replace HB := Aside0.mk (hb); try clear hb) | ((with_reducible refine gate_dst (N := 50) rfl ?_); refine Kd.R_lit (Kd.int .i64) _ 3 ?hg (N := 50) ?hd (xs := ([t279, 256, 257] : List Int)) (inner := [.int .i64 t279, .int .i64 256, .int .i64 257]) (ok := fun _ => True) (okp := fun _ => True) ?hr ?hp (fun _ hk => hk) trivial (Below.refl _ _) (Nat.le_refl _) (by simp) ?_; (case hd => rfl); (case hg => rfl); (case hr => first | (go_simp; done) | (go_simp; rfl)); (case hp => exact (Reps.one (show Kd.M (Kd.int .i64) _ _ _ t279 [.int .i64 t279] from rfl) (Reps.one (show Kd.M (Kd.int .i64) _ _ _ 256 [.int .i64 256] from rfl) (Reps.one (show Kd.M (Kd.int .i64) _ _ _ 257 [.int .i64 257] from rfl) (Reps.none _ _))))); intro v283 w38 ho39 hb hg_ hnew_; clear hg_ hnew_; (first | rw [← Ny282.out] at ho39 | (simp only [Int.reduceToNat] at ho39; rw [← Ny282.out] at ho39)); replace HO_5 := Aside0.mk (Kd.R_below (ro HO_5) hb); have HO284 := Aside0.mk (Kd.R_lower ho39 (keep_size (w := w) (g := g) (row := none) (by repeat (first | (with_reducible first | exact HK.out | apply KeepBut.set_ | apply keep_drewN | apply keep_drew | apply keep_alloc) | exact HK.out)))); replace HK := Aside0.mk (KeepBut.trans (by repeat (first | (with_reducible first | exact HK.out | apply KeepBut.set_ | apply keep_drewN | apply keep_drew | apply keep_alloc) | exact HK.out)) (KeepBut.of_below hb g none) (.inl rfl)); replace HB := Aside0.mk (below_step (by repeat (first | (with_reducible first | exact HB.out | apply below_alloc | apply pw_below_drewN | apply below_drew1 | refine below_set ?_ (IsS82.ge HI0.out)) | exact HB.out)) hb); replace HI0 := Aside0.mk (IsS82.below (by repeat (first | (with_reducible first | exact HI0.out | apply IsS82.alloc | apply IsS82.drewN | apply IsS82.drew | apply IsS82.set_1 | apply IsS82.set_2) | exact HI0.out)) hb); clear hb ho39) | ((with_reducible refine gf 33 ?_); refine gl 33 Try.func33 (some 52) #[.pointer (some ⟨g, 0, none⟩), .int .i64 3] ?_; (with_reducible refine (spec_l01Cur_pick.calls _ _ _ _ _ _ _ _ w0 _ ?side1 ?side2 A34.out).mono ?_); (case side1 => repeat (first | (with_reducible first | exact HI0.out | apply IsS82.alloc | apply IsS82.drewN | apply IsS82.drew | apply IsS82.set_1 | apply IsS82.set_2) | exact HI0.out)); (case side2 => repeat (first | (with_reducible first | exact HB.out | apply below_alloc | apply pw_below_drewN | apply below_drew1 | refine below_set ?_ (IsS82.ge HI0.out)) | exact HB.out)); rintro e w40 ⟨rfl, hi, hb, hk⟩; refine ⟨_, rfl, ?_⟩; replace HO_5 := Aside0.mk (Kd.R_mono (Kd.R_keep (IsS82.apart (show IsS82 w0 _ g s0_0 t280 t281 from by repeat (first | (with_reducible first | exact HI0.out | apply IsS82.alloc | apply IsS82.drewN | apply IsS82.drew | apply IsS82.set_1 | apply IsS82.set_2) | exact HI0.out)) (ro HO_5) (by decide)) hk (fun _ h => h.2)) (fun _ h => h.1)); replace HO284 := Aside0.mk (Kd.R_mono (Kd.R_keep (IsS82.apart (show IsS82 w0 _ g s0_0 t280 t281 from by repeat (first | (with_reducible first | exact HI0.out | apply IsS82.alloc | apply IsS82.drewN | apply IsS82.drew | apply IsS82.set_1 | apply IsS82.set_2) | exact HI0.out)) (ro HO284) (by decide)) hk (fun _ h => h.2)) (fun _ h => h.1)); replace HK := Aside0.mk (KeepBut.trans (by repeat (first | (with_reducible first | exact HK.out | apply KeepBut.set_ | apply keep_drewN | apply keep_drew | apply keep_alloc) | exact HK.out)) hk (.inl rfl)); replace HI0 := Aside0.mk (hi); replace HB := Aside0.mk (hb); try clear hb; obtain ⟨Ao41, co41, eo41⟩ := Kd.R_slice HO284.out; subst eo41; have p288 : 0 ≤ (t285 : Int) := of_decide_eq_true as_; have q288 : t285 < (y282.length : Int) := of_decide_eq_true as_; obtain ⟨ad288, e288, hx288_0⟩ := Kd.at_int (Kd.R_reads' HO284.out).2.2 t285 p288 q288; cases e288; replace p288 := eq_true p288; replace q288 := eq_true q288))
              go_ret2
              exact ⟨_, rt, ro HO_5, by repeat (first | (with_reducible first | exact HI0.out | apply IsS82.alloc | apply IsS82.drewN | apply IsS82.drew | apply IsS82.set_1 | apply IsS82.set_2) | exact HI0.out), by repeat (first | (with_reducible first | exact HB.out | apply below_alloc | apply pw_below_drewN | apply below_drew1 | refine below_set ?_ (IsS82.ge HI0.out)) | exact HB.out), by repeat (first | (with_reducible first | exact HK.out | apply KeepBut.set_ | apply keep_drewN | apply keep_drew | apply keep_alloc) | exact HK.out)⟩
            · rw [if_neg c36] at H
              exact absurd H (by simp)
          · rw [if_neg c35] at H
            exact absurd H (by simp)
        · (first | rw [c32b0] | (simp only [i64_w, i32_w]; rw [c32b0]) | (simp only [c32b2, Bool.not_true, Bool.not_false]) | (simp only [c32b1, Bool.not_true, Bool.not_false]) | skip)
          replace H := ieq H
          rcases H with ⟨c42b0, c42b1, H⟩ | ⟨c42, c42b0, c42b1, H⟩
          · replace H := bn H
            obtain ⟨⟨t289, t290, t291⟩, A43, H⟩ := H
            try dsimp only at H
            replace H := bn H
            obtain ⟨⟨t292, t293, t294⟩, A44, H⟩ := H
            try dsimp only at H
            by_cases c45 : x5_1.length < 8796093022208
            · rw [if_pos c45] at H
              have LMc45 := Aside0.mk c45
              clear c45
              obtain ⟨y295, hy295⟩ : ∃ y_ : List (S37), y_ = (x5_1 ++ [(⟨t289, t292⟩ : S37)]) := ⟨_, rfl⟩
              rw [← hy295] at H
              try with_reducible replace H := bs H
              have Ny295 := Aside0.mk hy295
              clear hy295
              simp only [Option.some.injEq, Prod.mk.injEq] at H
              obtain ⟨rfl, rfl, rfl, rfl⟩ := H
              go_wp2_with (first | ((with_reducible refine gf 36 ?_); refine gl 36 Try.func36 (some 59) #[.pointer (some ⟨g, 0, none⟩)] ?_; (with_reducible refine (spec_l01Cur_raw.calls _ _ _ _ _ _ _ w0 _ ?side1 ?side2 A43.out).mono ?_); (case side1 => repeat (first | (with_reducible first | exact HI0.out | apply IsS82.alloc | apply IsS82.drewN | apply IsS82.drew | apply IsS82.set_1 | apply IsS82.set_2) | exact HI0.out)); (case side2 => repeat (first | (with_reducible first | exact HB.out | apply below_alloc | apply pw_below_drewN | apply below_drew1 | refine below_set ?_ (IsS82.ge HI0.out)) | exact HB.out)); rintro e w46 ⟨rfl, hi, hb, hk⟩; refine ⟨_, rfl, ?_⟩; replace HO_5 := Aside0.mk (Kd.R_mono (Kd.R_keep (IsS82.apart (show IsS82 w0 _ g s0_0 t277 t278 from by repeat (first | (with_reducible first | exact HI0.out | apply IsS82.alloc | apply IsS82.drewN | apply IsS82.drew | apply IsS82.set_1 | apply IsS82.set_2) | exact HI0.out)) (ro HO_5) (by decide)) hk (fun _ h => h.2)) (fun _ h => h.1)); replace HK := Aside0.mk (KeepBut.trans (by repeat (first | (with_reducible first | exact HK.out | apply KeepBut.set_ | apply keep_drewN | apply keep_drew | apply keep_alloc) | exact HK.out)) hk (.inl rfl)); replace HI0 := Aside0.mk (hi); replace HB := Aside0.mk (hb); try clear hb) | ((with_reducible refine gf 33 ?_); refine gl 33 Try.func33 (some 61) #[.pointer (some ⟨g, 0, none⟩), .int .i64 5] ?_; (with_reducible refine (spec_l01Cur_pick.calls _ _ _ _ _ _ _ _ w0 _ ?side1 ?side2 A44.out).mono ?_); (case side1 => repeat (first | (with_reducible first | exact HI0.out | apply IsS82.alloc | apply IsS82.drewN | apply IsS82.drew | apply IsS82.set_1 | apply IsS82.set_2) | exact HI0.out)); (case side2 => repeat (first | (with_reducible first | exact HB.out | apply below_alloc | apply pw_below_drewN | apply below_drew1 | refine below_set ?_ (IsS82.ge HI0.out)) | exact HB.out)); rintro e w47 ⟨rfl, hi, hb, hk⟩; refine ⟨_, rfl, ?_⟩; replace HO_5 := Aside0.mk (Kd.R_mono (Kd.R_keep (IsS82.apart (show IsS82 w0 _ g s0_0 t290 t291 from by repeat (first | (with_reducible first | exact HI0.out | apply IsS82.alloc | apply IsS82.drewN | apply IsS82.drew | apply IsS82.set_1 | apply IsS82.set_2) | exact HI0.out)) (ro HO_5) (by decide)) hk (fun _ h => h.2)) (fun _ h => h.1)); replace HK := Aside0.mk (KeepBut.trans (by repeat (first | (with_reducible first | exact HK.out | apply KeepBut.set_ | apply keep_drewN | apply keep_drew | apply keep_alloc) | exact HK.out)) hk (.inl rfl)); replace HI0 := Aside0.mk (hi); replace HB := Aside0.mk (hb); try clear hb) | ((with_reducible refine gate_builtin (b := .append) (xs := #[.tmp 57, .tmp 63]) rfl ?_); at_builtin; refine Kd.R_append k37 w.heap.size rfl (.tmp 57) (.tmp 63) 35 37 (.agg #[(.int .i64 0), (.int .i64 0)]) 16 rfl Try.underlying35 info37 rfl (by decide) (by omega) u5 x5_1 (⟨t289, t292⟩ : S37) [.int .i64 t289, .int .i64 t292] (fun _ => True) (fun _ => False) rfl rfl ?aP (fun _ hk => hk.elim) ?aF ?aO (Below.refl _ _) ?aS ?aL ?_; (case aP => exact k37_mkM _ _ _ (⟨t289, t292⟩ : S37)); (case aF => exact (fun _ _ => trivial)); (case aO => exact (ro HO_5)); (case aS => exact (keep_size (w := w) (g := g) (row := none) (by repeat (first | (with_reducible first | exact HK.out | apply KeepBut.set_ | apply keep_drewN | apply keep_drew | apply keep_alloc) | exact HK.out)))); (case aL => have := LMc45.out; omega); intro v296 w48 ho hb hg hat; rw [← Ny295.out] at ho; replace HK := Aside0.mk (KeepBut.trans (by repeat (first | (with_reducible first | exact HK.out | apply KeepBut.set_ | apply keep_drewN | apply keep_drew | apply keep_alloc) | exact HK.out)) (KeepBut.of_grown hg g) (Kd.R_base2 HO_5.out)); have HO297 := Aside0.mk (ho); replace HB := Aside0.mk (below_weaken (by repeat (first | (with_reducible first | exact HB.out | apply below_alloc | apply pw_below_drewN | apply below_drew1 | refine below_set ?_ (IsS82.ge HI0.out)) | exact HB.out)) HL.out hb); replace HI0 := Aside0.mk (IsS82.grown (by repeat (first | (with_reducible first | exact HI0.out | apply IsS82.alloc | apply IsS82.drewN | apply IsS82.drew | apply IsS82.set_1 | apply IsS82.set_2) | exact HI0.out)) hg (IsS82.own_ne HI0.out HO_5.out (by decide))); clear HO_5; clear ho hb hg hat))
              go_ret2
              exact ⟨_, rt, ro HO297, by repeat (first | (with_reducible first | exact HI0.out | apply IsS82.alloc | apply IsS82.drewN | apply IsS82.drew | apply IsS82.set_1 | apply IsS82.set_2) | exact HI0.out), by repeat (first | (with_reducible first | exact HB.out | apply below_alloc | apply pw_below_drewN | apply below_drew1 | refine below_set ?_ (IsS82.ge HI0.out)) | exact HB.out), by repeat (first | (with_reducible first | exact HK.out | apply KeepBut.set_ | apply keep_drewN | apply keep_drew | apply keep_alloc) | exact HK.out)⟩
            · rw [if_neg c45] at H
              exact absurd H (by simp)
          · replace H := ieq H
            rcases H with ⟨c49b0, c49b1, H⟩ | ⟨c49, c49b0, c49b1, H⟩
            · by_cases c50 : (x5_1.length : Int) > 0
              · rw [if_pos c50] at H
                have c50b0 : decide (0 < (x5_1.length : Int)) = true := decide_eq_true c50
                have c50b1 : decide (0 < x5_1.length) = true := decide_eq_true (by omega)
                clear c50
                replace H := bn H
                obtain ⟨⟨t298, t299, t300⟩, A51, H⟩ := H
                try dsimp only at H
                replace H := bn H
                obtain ⟨⟨t301, t302, t303⟩, A52, H⟩ := H
                try dsimp only at H
                by_cases c53 : 0 ≤ t298
                · rw [if_pos c53] at H
                  have c53b0 : decide (0 ≤ t298) = true := decide_eq_true c53
                  clear c53
                  by_cases c54 : t298 < (x5_1.length : Int)
                  · rw [if_pos c54] at H
                    have c54b0 : decide (t298 < (x5_1.length : Int)) = true := decide_eq_true c54
                    clear c54
                    obtain ⟨y304, hy304⟩ : ∃ y_ : List (S37), y_ = (x5_1.set (t298 : Int).toNat (⟨(rd_T37 x5_1 t298).f0, t301⟩ : S37)) := ⟨_, rfl⟩
                    rw [← hy304] at H
                    try with_reducible replace H := bs H
                    have Ny304 := Aside0.mk hy304
                    clear hy304
                    simp only [Option.some.injEq, Prod.mk.injEq] at H
                    obtain ⟨rfl, rfl, rfl, rfl⟩ := H
                    obtain ⟨Ao56, co56, eo56⟩ := Kd.R_slice HO_5.out
                    subst eo56
                    go_wp2_with (first | ((with_reducible refine gf 33 ?_); refine gl 33 Try.func33 (some 74) #[.pointer (some ⟨g, 0, none⟩), .int .i64 (x5_1.length : Int)] ?_; (with_reducible refine (spec_l01Cur_pick.calls _ _ _ _ _ _ _ _ w0 _ ?side1 ?side2 A51.out).mono ?_); (case side1 => repeat (first | (with_reducible first | exact HI0.out | apply IsS82.alloc | apply IsS82.drewN | apply IsS82.drew | apply IsS82.set_1 | apply IsS82.set_2) | exact HI0.out)); (case side2 => repeat (first | (with_reducible first | exact HB.out | apply below_alloc | apply pw_below_drewN | apply below_drew1 | refine below_set ?_ (IsS82.ge HI0.out)) | exact HB.out)); rintro e w57 ⟨rfl, hi, hb, hk⟩; refine ⟨_, rfl, ?_⟩; replace HO_5 := Aside0.mk (Kd.R_mono (Kd.R_keep (IsS82.apart (show IsS82 w0 _ g s0_0 t277 t278 from by repeat (first | (with_reducible first | exact HI0.out | apply IsS82.alloc | apply IsS82.drewN | apply IsS82.drew | apply IsS82.set_1 | apply IsS82.set_2) | exact HI0.out)) (ro HO_5) (by decide)) hk (fun _ h => h.2)) (fun _ h => h.1)); replace HK := Aside0.mk (KeepBut.trans (by repeat (first | (with_reducible first | exact HK.out | apply KeepBut.set_ | apply keep_drewN | apply keep_drew | apply keep_alloc) | exact HK.out)) hk (.inl rfl)); replace HI0 := Aside0.mk (hi); replace HB := Aside0.mk (hb); try clear hb) | ((with_reducible refine gf 36 ?_); refine gl 36 Try.func36 (some 76) #[.pointer (some ⟨g, 0, none⟩)] ?_; (with_reducible refine (spec_l01Cur_raw.calls _ _ _ _ _ _ _ w0 _ ?side1 ?side2 A52.out).mono ?_); (case side1 => repeat (first | (with_reducible first | exact HI0.out | apply IsS82.alloc | apply IsS82.drewN | apply IsS82.drew | apply IsS82.set_1 | apply IsS82.set_2) | exact HI0.out)); (case side2 => repeat (first | (with_reducible first | exact HB.out | apply below_alloc | apply pw_below_drewN | apply below_drew1 | refine below_set ?_ (IsS82.ge HI0.out)) | exact HB.out)); rintro e w58 ⟨rfl, hi, hb, hk⟩; refine ⟨_, rfl, ?_⟩; replace HO_5 := Aside0.mk (Kd.R_mono (Kd.R_keep (IsS82.apart (show IsS82 w0 _ g s0_0 t299 t300 from by repeat (first | (with_reducible first | exact HI0.out | apply IsS82.alloc | apply IsS82.drewN | apply IsS82.drew | apply IsS82.set_1 | apply IsS82.set_2) | exact HI0.out)) (ro HO_5) (by decide)) hk (fun _ h => h.2)) (fun _ h => h.1)); replace HK := Aside0.mk (KeepBut.trans (by repeat (first | (with_reducible first | exact HK.out | apply KeepBut.set_ | apply keep_drewN | apply keep_drew | apply keep_alloc) | exact HK.out)) hk (.inl rfl)); replace HI0 := Aside0.mk (hi); replace HB := Aside0.mk (hb); try clear hb; have p55 : 0 ≤ (t298 : Int) := of_decide_eq_true as_; have q55 : (t298 : Int) < ((x5_1.length : Int) : Int) := of_decide_eq_true as_; obtain ⟨go55, co55, eo55, gb55, gl55, cl55, HG55⟩ := Kd.R_form HO_5.out (by omega); (first | cases eo55 | (injection eo55 with ea_ en_ ec_; (first | subst ea_ | (injection ea_ with ea_; subst ea_)); subst ec_; clear en_)); have GB55 := Aside0.mk gb55; have GG55 := Aside0.mk HG55; clear gb55 gl55 HG55; obtain ⟨ce55, hcl55, hM55, hcc55, hfr55⟩ := Kd.R_elem HO_5.out z37 (t298 : Int) p55 q55; obtain rfl := k37_openM hM55; have hx55_0 : w58.cell? ⟨go55, (t298 : Int).toNat * 2, none⟩ = some (.int .i64 ((rd_T37 x5_1 t298).f0)) := hcc55 0 _ rfl; have hx55_1 : w58.cell? ⟨go55, (t298 : Int).toNat * 2 + 1, none⟩ = some (.int .i64 ((rd_T37 x5_1 t298).f1)) := hcc55 1 _ rfl; have hf55_0 : w58.frozen? ⟨go55, (t298 : Int).toNat * 2, none⟩ = false := hfr55 0; have hf55_1 : w58.frozen? ⟨go55, (t298 : Int).toNat * 2 + 1, none⟩ = false := hfr55 1; clear hcl55 hcc55 hfr55 hM55; replace p55 := eq_true p55; replace q55 := eq_true q55; have HX59 := Aside0.mk (show Kd.R k37 37 w58 w.heap.size (fun _ => True) (.slice (some ⟨go55, 0, none⟩) x5_1.length co56) x5_1 from (ro HO_5)); obtain ⟨ce59, hcl59, hM59, hcc59, hfr59⟩ := Kd.R_elem HX59.out z37 (t298 : Int) (of_decide_eq_true as_) (by have h_ : (t298 : Int) < ((x5_1.length : Int) : Int) := of_decide_eq_true as_; first | exact h_ | (have e_ := (Kd.R_reads' HO_5.out).1; omega) | simpa using h_); obtain rfl := k37_openM hM59; have HP59 := Kd.R_seg HX59.out (t298 : Int) (of_decide_eq_true as_) (by have h_ : (t298 : Int) < ((x5_1.length : Int) : Int) := of_decide_eq_true as_; first | exact h_ | (have e_ := (Kd.R_reads' HO_5.out).1; omega) | simpa using h_) (seg := [.int .i64 t301]) (j := 1) hcl59 hcc59 (show 2 ≤ 2 from by decide) (x' := (⟨(rd_T37 x5_1 t298).f0, t301⟩ : S37)) (k37_mkM _ _ _ (⟨(rd_T37 x5_1 t298).f0, t301⟩ : S37) ) (fun _ hk => hk); have hx59_1 := hcc59 1 _ rfl; (try simp only [show (k37).sz = 2 from rfl, Nat.mul_one, Nat.add_zero] at hx59_1); have hf59_1 := hfr59 1; (try simp only [show (k37).sz = 2 from rfl, Nat.mul_one, Nat.add_zero] at hf59_1); clear hcl59 hcc59 hfr59 hM59) | ((with_reducible refine gate_store (t := 3) (p := 78) rfl ?_); refine store_event (t := 3) (p := 78) (v := ?vo_w60) (w1 := (w58.setCell ⟨go55, (t298 : Int).toNat * 2 + 1, none⟩ (.int .i64 t301))) ?hg ?ho ?hn ?hr ?_; (case ho => rfl); (case hg => rfl); (case hn => rfl); (case hr => first | (go_simp; done) | (go_simp; rfl)); intro w60 hw; have hg : w58.grownBy w60 (some go55) := (by rw [hw]; exact HP59.2); have hp_ : Kd.R k37 37 w60 w.heap.size (fun _ => True) (.slice (some ⟨go55, 0, none⟩) x5_1.length co56) y304 := (by rw [hw, Ny304.out]; exact HP59.1); clear HP59; replace HI0 := Aside0.mk (IsS82.grown (by repeat (first | (with_reducible first | exact HI0.out | apply IsS82.alloc | apply IsS82.drewN | apply IsS82.drew | apply IsS82.set_1 | apply IsS82.set_2) | exact HI0.out)) hg (IsS82.own_ne HI0.out HO_5.out (by decide))); replace HK := Aside0.mk (KeepBut.trans (by repeat (first | (with_reducible first | exact HK.out | apply KeepBut.set_ | apply keep_drewN | apply keep_drew | apply keep_alloc) | exact HK.out)) (KeepBut.of_grown hg g) (Kd.R_base2 HO_5.out)); replace HO_5 := Aside0.mk (hp_); replace HB := Aside0.mk ((by rw [hw]; exact below_set (HB.out) (Nat.le_trans HL.out GB55.out) : Below w0.heap.size w0 w60)); clear hg hw hp_))
                    go_ret2
                    exact ⟨_, rt, ro HO_5, by repeat (first | (with_reducible first | exact HI0.out | apply IsS82.alloc | apply IsS82.drewN | apply IsS82.drew | apply IsS82.set_1 | apply IsS82.set_2) | exact HI0.out), by repeat (first | (with_reducible first | exact HB.out | apply below_alloc | apply pw_below_drewN | apply below_drew1 | refine below_set ?_ (IsS82.ge HI0.out)) | exact HB.out), by repeat (first | (with_reducible first | exact HK.out | apply KeepBut.set_ | apply keep_drewN | apply keep_drew | apply keep_alloc) | exact HK.out)⟩
                  · rw [if_neg c54] at H
                    exact absurd H (by simp)
                · rw [if_neg c53] at H
                  exact absurd H (by simp)
              · rw [if_neg c50] at H
                have c50b0 : decide (0 < (x5_1.length : Int)) = false := decide_eq_false c50
                have c50b1 : decide (0 < x5_1.length) = false := decide_eq_false (by omega)
                clear c50
                simp only [Option.some.injEq, Prod.mk.injEq] at H
                obtain ⟨rfl, rfl, rfl, rfl⟩ := H
                obtain ⟨Ao61, co61, eo61⟩ := Kd.R_slice HO_5.out
                subst eo61
                go_wp2
                go_ret2
                exact ⟨_, rt, ro HO_5, by repeat (first | (with_reducible first | exact HI0.out | apply IsS82.alloc | apply IsS82.drewN | apply IsS82.drew | apply IsS82.set_1 | apply IsS82.set_2) | exact HI0.out), by repeat (first | (with_reducible first | exact HB.out | apply below_alloc | apply pw_below_drewN | apply below_drew1 | refine below_set ?_ (IsS82.ge HI0.out)) | exact HB.out), by repeat (first | (with_reducible first | exact HK.out | apply KeepBut.set_ | apply keep_drewN | apply keep_drew | apply keep_alloc) | exact HK.out)⟩
            · simp only [Option.some.injEq, Prod.mk.injEq] at H
              obtain ⟨rfl, rfl, rfl, rfl⟩ := H
              go_wp2
              go_ret2
              exact ⟨_, rt, ro HO_5, by repeat (first | (with_reducible first | exact HI0.out | apply IsS82.alloc | apply IsS82.drewN | apply IsS82.drew | apply IsS82.set_1 | apply IsS82.set_2) | exact HI0.out), by repeat (first | (with_reducible first | exact HB.out | apply below_alloc | apply pw_below_drewN | apply below_drew1 | refine below_set ?_ (IsS82.ge HI0.out)) | exact HB.out), by repeat (first | (with_reducible first | exact HK.out | apply KeepBut.set_ | apply keep_drewN | apply keep_drew | apply keep_alloc) | exact HK.out)⟩

/-! ### spec_LiveOk: function 37 -/
mutual
def spec_LiveOk.j0 : Nat → List (S37) → Int → Bool → Option (Bool)
  | 0, _, _, _ => none
  | k + 1, x0, x1, x18 => if x18 = true then (some false) else (spec_LiveOk.l0 k x0 x1 0 0)
def spec_LiveOk.l0 : Nat → List (S37) → Int → Int → Int → Option (Bool)
  | 0, _, _, _, _ => none
  | k + 1, x0, x1, x5, x6 => if x6 < (x0.length : Int) then (if 0 ≤ x6 then (if ((rd_T37 x0 x6).f0) < x5 then (some false) else (if ((rd_T37 x0 x6).f1) < 1 then (some false) else (if ((rd_T37 x0 x6).f0) > x1 then (some false) else (if ((rd_T37 x0 x6).f1) > (wrap64 (x1 - ((rd_T37 x0 x6).f0))) then (some false) else (spec_LiveOk.l0 k x0 x1 (wrap64 (((rd_T37 x0 x6).f0) + ((rd_T37 x0 x6).f1))) (wrap64 (x6 + 1))))))) else (none)) else (some true)
end
def spec_LiveOk.f (k : Nat) (l0 : List (S37)) (a1 : Int) : Option (Bool) := if a1 < 0 then (spec_LiveOk.j0 k l0 a1 true) else (if a1 > 256 then (spec_LiveOk.j0 k l0 a1 true) else (spec_LiveOk.j0 k l0 a1 (decide ((l0.length : Int) > 300))))
theorem spec_LiveOk.mono_l : ∀ k, (∀ y0 y1 y2, LeO (spec_LiveOk.j0 k y0 y1 y2) (spec_LiveOk.j0 (k + 1) y0 y1 y2)) ∧ (∀ y0 y1 y2 y3, LeO (spec_LiveOk.l0 k y0 y1 y2 y3) (spec_LiveOk.l0 (k + 1) y0 y1 y2 y3))
  | 0 => ⟨fun _ _ _ r h => by simp [spec_LiveOk.j0] at h, fun _ _ _ _ r h => by simp [spec_LiveOk.l0] at h⟩
  | k + 1 => by
    obtain ⟨ih0, ih1⟩ := spec_LiveOk.mono_l k
    refine ⟨?_, ?_⟩
    · intro y0 y1 y2
      unfold spec_LiveOk.j0
      repeat' first
        | (with_reducible first | exact ih0 .. | exact ih1 .. | exact LeO.refl _ | exact LeO.none _ | refine LeO.ite ?_ ?_ | refine LeO.bind ?_ (fun _ => ?_))
        | exact LeO.none _ | refine LeO.ite ?_ ?_ | refine LeO.bind ?_ (fun _ => ?_)
    · intro y0 y1 y2 y3
      unfold spec_LiveOk.l0
      repeat' first
        | (with_reducible first | exact ih0 .. | exact ih1 .. | exact LeO.refl _ | exact LeO.none _ | refine LeO.ite ?_ ?_ | refine LeO.bind ?_ (fun _ => ?_))
        | exact LeO.none _ | refine LeO.ite ?_ ?_ | refine LeO.bind ?_ (fun _ => ?_)
theorem spec_LiveOk.mono : ∀ a0 a1 k, LeO (spec_LiveOk.f k a0 a1) (spec_LiveOk.f (k + 1) a0 a1) := by
  intro a0 a1 k
  obtain ⟨ih0, ih1⟩ := spec_LiveOk.mono_l k
  unfold spec_LiveOk.f
  repeat' first
    | (with_reducible first | exact ih0 .. | exact ih1 .. | exact LeO.refl _ | exact LeO.none _ | refine LeO.ite ?_ ?_ | refine LeO.bind ?_ (fun _ => ?_))
    | exact LeO.none _ | refine LeO.ite ?_ ?_ | refine LeO.bind ?_ (fun _ => ?_)
set_option maxHeartbeats 8000000 in
set_option maxRecDepth 100000 in
theorem spec_LiveOk.calls (k : Nat) (A0 : Option Addr) (c0 : Nat) (l0 : List (S37)) (a1 : Int) (r : Bool) (w : World) (hr0 : Kd.C k37 w A0 l0.length l0) (hc0 : l0.length ≤ c0) (h : spec_LiveOk.f k l0 a1 = some r) :
    Calls Try.prog 37 #[.slice A0 l0.length c0, .int .i64 a1] w fun e w' => e = .returned (.bool r) ∧ Below w.heap.size w w' := by
  have hu37 := Try.underlying37
  have HR0 := Aside0.mk hr0
  have HC0 := Aside0.mk hc0
  clear hr0 hc0
  have HB := Aside0.mk (Below.refl w.heap.size w)
  unfold spec_LiveOk.f at h
  have H := h
  clear h
  have HC3 := Aside0.mk H
  clear H
  go_enter Try.func37, Try.ntmps37
  go_upto_region 1 with (fail)
  go_cut [18] (fun v18 wc => ∃ (kq : Nat) (x18_2 : Bool), v18 = .bool x18_2 ∧ Aside0 (spec_LiveOk.j0 kq l0 a1 x18_2 = some r) ∧ Aside0 (kq ≤ k) ∧ Aside0 (Below w.heap.size w wc))
  case first => as_aux_lemma =>
    have H := HC3.out
    clear HC3
    replace H := ilt H
    rcases H with ⟨c4b0, H⟩ | ⟨c4b0, H⟩
    · (first | rw [c4b0] | (simp only [i64_w, i32_w]; rw [c4b0]) | (simp only [c4b2, Bool.not_true, Bool.not_false]) | (simp only [c4b1, Bool.not_true, Bool.not_false]) | skip)
      have H' := Aside0.mk H
      clear H
      go_wp2
      go_meet
      case rel => exact ⟨_, (true), ev, H', ⟨om⟩, ⟨bw⟩⟩
    · (first | rw [c4b0] | (simp only [i64_w, i32_w]; rw [c4b0]) | (simp only [c4b2, Bool.not_true, Bool.not_false]) | (simp only [c4b1, Bool.not_true, Bool.not_false]) | skip)
      replace H := igt H
      rcases H with ⟨c5b0, H⟩ | ⟨c5b0, H⟩
      · have H' := Aside0.mk H
        clear H
        go_wp2
        go_meet
        case rel => exact ⟨_, (true), ev, H', ⟨om⟩, ⟨bw⟩⟩
      · have H' := Aside0.mk H
        clear H
        go_wp2
        go_meet
        case rel => exact ⟨_, (decide ((l0.length : Int) > 300)), ev, H', ⟨om⟩, ⟨bw⟩⟩
  case rest => as_aux_lemma =>
    clear HC3
    obtain ⟨kq, x18_2, rfl, HA, HJ2, HB⟩ := hcut
    cases kq with
    | zero => exact absurd HA.out (by simp [spec_LiveOk.j0])
    | succ kj2 =>
      have H := HA.out
      clear HA
      simp only [spec_LiveOk.j0] at H
      replace H := ib H
      rcases H with ⟨rfl, H⟩ | ⟨rfl, H⟩
      · obtain rfl := Option.some.inj H
        go_wp2
        go_ret
        exact ⟨rt, bw⟩
      · have H' := Aside0.mk H
        clear H
        go_wp2
        go_loopg [5, 6] kj2 (fun kq v5 v6 w' => ∃ (x5_2 : Int) (x6_2 : Int), v5 = .int .i64 x5_2 ∧ v6 = .int .i64 x6_2 ∧ Aside0 (spec_LiveOk.l0 kq l0 a1 x5_2 x6_2 = some r) ∧ Aside0 (kq ≤ kj2) ∧ Aside0 (Below w.heap.size w w'))
        case atStart => exact ⟨(0), (0), ev, ev, H', ⟨Nat.le_refl _⟩, ⟨bw⟩⟩
        case round =>
          clear H'
          try clear c6
          obtain ⟨x5_2, x6_2, rfl, rfl, HA, HK2, HB⟩ := hrel
          cases gk with
          | zero => exact absurd HA.out (by simp [spec_LiveOk.l0])
          | succ k2 =>
            have H := HA.out
            clear HA
            simp only [spec_LiveOk.l0] at H
            replace H := ilt H
            rcases H with ⟨c7b0, H⟩ | ⟨c7b0, H⟩
            · by_cases c8 : 0 ≤ x6_2
              · rw [if_pos c8] at H
                have c8b0 : decide (0 ≤ x6_2) = true := decide_eq_true c8
                clear c8
                replace H := ilt H
                rcases H with ⟨c9b0, H⟩ | ⟨c9b0, H⟩
                · obtain rfl := Option.some.inj H
                  have p305 : 0 ≤ (x6_2 : Int) := of_decide_eq_true as_
                  have q305 : x6_2 < (l0.length : Int) := of_decide_eq_true as_
                  obtain ⟨ad305, e305, hx305_0, hx305_1⟩ := at_T37 HR0.out x6_2 p305 q305
                  cases e305
                  replace hx305_0 := cl HB hx305_0
                  replace hx305_1 := cl HB hx305_1
                  replace p305 := eq_true p305
                  replace q305 := eq_true q305
                  go_wp2_with (first | ((with_reducible refine gate_dst (N := 7) rfl ?_); (try (refine gate_guard (by rfl) ?_; dsimp only)); refine box_event ?hg (N := 7) ?hd (cs := #[.int .i64 0, .int .i64 0]) (t := 37) ?hr ?_; (case hd => rfl); (case hg => rfl); (case hr => first | (go_simp; done) | (go_simp; rfl)); intro gb306 hg w10 hbox hb; have BK306 := Aside0.mk hbox; have GW306 := bz hg; have GE306 := bz hg; replace HB := hs hb; clear hb hbox hg; obtain ⟨z11_0, z11_1⟩ := ca2 BK306; obtain ⟨f11_0, f11_1⟩ := fa2 BK306))
                  go_ret
                  exact ⟨rt, bw⟩
                · replace H := ilt H
                  rcases H with ⟨c12b0, H⟩ | ⟨c12b0, H⟩
                  · obtain rfl := Option.some.inj H
                    have p305 : 0 ≤ (x6_2 : Int) := of_decide_eq_true as_
                    have q305 : x6_2 < (l0.length : Int) := of_decide_eq_true as_
                    obtain ⟨ad305, e305, hx305_0, hx305_1⟩ := at_T37 HR0.out x6_2 p305 q305
                    cases e305
                    replace hx305_0 := cl HB hx305_0
                    replace hx305_1 := cl HB hx305_1
                    replace p305 := eq_true p305
                    replace q305 := eq_true q305
                    go_wp2_with (first | ((with_reducible refine gate_dst (N := 7) rfl ?_); (try (refine gate_guard (by rfl) ?_; dsimp only)); refine box_event ?hg (N := 7) ?hd (cs := #[.int .i64 0, .int .i64 0]) (t := 37) ?hr ?_; (case hd => rfl); (case hg => rfl); (case hr => first | (go_simp; done) | (go_simp; rfl)); intro gb306 hg w13 hbox hb; have BK306 := Aside0.mk hbox; have GW306 := bz hg; have GE306 := bz hg; replace HB := hs hb; clear hb hbox hg; obtain ⟨z14_0, z14_1⟩ := ca2 BK306; obtain ⟨f14_0, f14_1⟩ := fa2 BK306))
                    go_ret
                    exact ⟨rt, bw⟩
                  · replace H := igt H
                    rcases H with ⟨c15b0, H⟩ | ⟨c15b0, H⟩
                    · obtain rfl := Option.some.inj H
                      have p305 : 0 ≤ (x6_2 : Int) := of_decide_eq_true as_
                      have q305 : x6_2 < (l0.length : Int) := of_decide_eq_true as_
                      obtain ⟨ad305, e305, hx305_0, hx305_1⟩ := at_T37 HR0.out x6_2 p305 q305
                      cases e305
                      replace hx305_0 := cl HB hx305_0
                      replace hx305_1 := cl HB hx305_1
                      replace p305 := eq_true p305
                      replace q305 := eq_true q305
                      go_wp2_with (first | ((with_reducible refine gate_dst (N := 7) rfl ?_); (try (refine gate_guard (by rfl) ?_; dsimp only)); refine box_event ?hg (N := 7) ?hd (cs := #[.int .i64 0, .int .i64 0]) (t := 37) ?hr ?_; (case hd => rfl); (case hg => rfl); (case hr => first | (go_simp; done) | (go_simp; rfl)); intro gb306 hg w16 hbox hb; have BK306 := Aside0.mk hbox; have GW306 := bz hg; have GE306 := bz hg; replace HB := hs hb; clear hb hbox hg; obtain ⟨z17_0, z17_1⟩ := ca2 BK306; obtain ⟨f17_0, f17_1⟩ := fa2 BK306))
                      go_ret
                      exact ⟨rt, bw⟩
                    · have HU18 := Aside0.mk H
                      clear H
                      have p305 : 0 ≤ (x6_2 : Int) := of_decide_eq_true as_
                      have q305 : x6_2 < (l0.length : Int) := of_decide_eq_true as_
                      obtain ⟨ad305, e305, hx305_0, hx305_1⟩ := at_T37 HR0.out x6_2 p305 q305
                      cases e305
                      replace hx305_0 := cl HB hx305_0
                      replace hx305_1 := cl HB hx305_1
                      replace p305 := eq_true p305
                      replace q305 := eq_true q305
                      go_upto_if 52 with (first | ((with_reducible refine gate_dst (N := 7) rfl ?_); (try (refine gate_guard (by rfl) ?_; dsimp only)); refine box_event ?hg (N := 7) ?hd (cs := #[.int .i64 0, .int .i64 0]) (t := 37) ?hr ?_; (case hd => rfl); (case hg => rfl); (case hr => first | (go_simp; done) | (go_simp; rfl)); intro gb306 hg w19 hbox hb; have BK306 := Aside0.mk hbox; have GW306 := bz hg; have GE306 := bz hg; replace HB := hs hb; clear hb hbox hg; obtain ⟨z20_0, z20_1⟩ := ca2 BK306; obtain ⟨f20_0, f20_1⟩ := fa2 BK306))
                      (try refine ap ?_)
                      have H := HU18.out
                      clear HU18
                      replace H := igt H
                      rcases H with ⟨c21b0, H⟩ | ⟨c21b0, H⟩
                      · (first | rw [c21b0] | (simp only [i64_w, i32_w]; rw [c21b0]) | (simp only [c21b2, Bool.not_true, Bool.not_false]) | (simp only [c21b1, Bool.not_true, Bool.not_false]) | skip)
                        obtain rfl := Option.some.inj H
                        go_wp2
                        go_ret
                        exact ⟨rt, bw⟩
                      · (first | rw [c21b0] | (simp only [i64_w, i32_w]; rw [c21b0]) | (simp only [c21b2, Bool.not_true, Bool.not_false]) | (simp only [c21b1, Bool.not_true, Bool.not_false]) | skip)
                        have H' := Aside0.mk H
                        clear H
                        obtain ⟨z22_0, z22_1⟩ := ca2 BK306
                        obtain ⟨f22_0, f22_1⟩ := fa2 BK306
                        go_wp2
                        go_roundg k2
                        case measure => have := HJ2.out; have := HK2.out; omega
                        case rel => exact ⟨(wrap64 (((rd_T37 l0 x6_2).f0) + ((rd_T37 l0 x6_2).f1))), (wrap64 (x6_2 + 1)), ev, ev, H', ⟨by have := HJ2.out; have := HK2.out; omega⟩, ⟨bw⟩⟩
              · rw [if_neg c8] at H
                exact absurd H (by simp)
            · obtain rfl := Option.some.inj H
              go_wp2
              go_ret
              exact ⟨rt, bw⟩

end Go.Proofs.Ytobboonnfocalaa.PB1
