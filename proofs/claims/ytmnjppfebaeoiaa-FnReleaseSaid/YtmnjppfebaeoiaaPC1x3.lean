/- What functions of the program compute, each as a Lean function, and that the run comes to just that. Conditions: none. -/
import Derived.Test.YtmnjppfebaeoiaaPC1x0
import Derived.Test.YtmnjppfebaeoiaaPC1x1
namespace Go.Proofs.Ytmnjppfebaeoiaa.PC1
open Go.RowKit Go.Proofs.YtmnjppfebaeoiaaW.PrintWords Go.Proofs.YtmnjppfebaeoiaaW.PrintLast Go.Proofs.YtmnjppfebaeoiaaW.PrintMore
attribute [local go_sem] max2_int min2_int max_two min_two max_three min_three max_four min_four   -- for this text's walks alone
set_option linter.unusedVariables false
set_option linter.unusedSimpArgs false

/-! ### spec_l01Cur_wide: function 156 -/
def spec_l01Cur_wide.f (s0_0 : List Int) (s0_1 : Int) (s0_2 : Int) (a1 : Int) : Option (Int × Int × Int) := (spec_l01Cur_pick.f s0_0 s0_1 s0_2 256).bind fun bt746 => ((spec_l01Cur_pick.f s0_0 bt746.2.1 bt746.2.2 256).bind fun bt749 => ((spec_l01Cur_pick.f s0_0 bt749.2.1 bt749.2.2 256).bind fun bt752 => (if a1 = 0 then (none) else (some (Int.tmod (wrap64 ((wrap64 ((wrap64 (65536 * bt746.1)) + (wrap64 (256 * bt749.1)))) + bt752.1)) a1, bt752.2.1, bt752.2.2)))))
set_option maxHeartbeats 8000000 in
set_option maxRecDepth 100000 in
theorem spec_l01Cur_wide.calls (g : Nat) (s0_0 : List Int) (s0_1 : Int) (s0_2 : Int) (a1 : Int) (r1 : Int) (r2 : Int) (r3 : Int) (w0 w : World) (hI : IsS153 w0 w g s0_0 s0_1 s0_2) (hB : Below w0.heap.size w0 w) (h : spec_l01Cur_wide.f s0_0 s0_1 s0_2 a1 = some (r1, r2, r3)) :
    Calls Try.prog 156 #[.pointer (some ⟨g, 0, none⟩), .int .i64 a1] w fun e w' => e = .returned (.int .i64 r1) ∧ IsS153 w0 w' g s0_0 r2 r3 ∧ Below w0.heap.size w0 w' ∧ KeepBut w w' g none := by
  have HI0 := Aside0.mk hI
  have HK := Aside0.mk (KeepBut.refl w g none)
  have HL := Aside0.mk hB.size
  clear hI
  have HW0 := Aside0.mk hB.size
  have HB := Aside0.mk hB
  clear hB
  unfold spec_l01Cur_wide.f at h
  have H := h
  clear h
  replace H := Option.bind_eq_some_iff.mp H
  obtain ⟨⟨t746, t747, t748⟩, A30, H⟩ := H
  try dsimp only at H
  have A3 := Aside0.mk A30
  clear A30
  replace H := Option.bind_eq_some_iff.mp H
  obtain ⟨⟨t749, t750, t751⟩, A40, H⟩ := H
  try dsimp only at H
  have A4 := Aside0.mk A40
  clear A40
  replace H := Option.bind_eq_some_iff.mp H
  obtain ⟨⟨t752, t753, t754⟩, A50, H⟩ := H
  try dsimp only at H
  have A5 := Aside0.mk A50
  clear A50
  by_cases c6 : a1 = 0
  · rw [if_pos c6] at H
    exact absurd H (by simp)
  · rw [if_neg c6] at H
    have c6b0 : (a1 == 0) = false := beq_eq_false_iff_ne.mpr c6
    have c6b1 : (a1 != 0) = true := bne_iff_ne.mpr c6
    simp only [Option.some.injEq, Prod.mk.injEq] at H
    obtain ⟨rfl, rfl, rfl⟩ := H
    go_enter Try.func156, Try.ntmps156
    go_wp2_with (first | ((with_reducible refine gate_callee (f := 113) rfl ?_); refine goesL_ (some 6) rfl rfl Try.func113 (by kernel_rfl) rfl #[.pointer (some ⟨g, 0, none⟩), .int .i64 256] rfl (by (try simp only [List.map_toArray, List.map_cons, List.map_nil]); first | done | rfl | (simp only [List.length_drop, List.length_take]; rfl)) ?_; (with_reducible refine (spec_l01Cur_pick.calls g s0_0 s0_1 s0_2 256 t746 t747 t748 w0 _ ?side1 ?side2 A3.out).mono ?_); (case side1 => repeat (first | (with_reducible first | exact HI0.out | apply IsS153.alloc | apply IsS153.drewN | apply IsS153.drew | apply IsS153.set_1 | apply IsS153.set_2) | exact HI0.out)); (case side2 => repeat (first | (with_reducible first | exact HB.out | apply below_alloc | apply pw_below_drewN | apply below_drew1 | refine below_set ?_ (IsS153.ge HI0.out)) | exact HB.out)); rintro e w7 ⟨rfl, hi, hb, hk⟩; refine ⟨_, rfl, ?_⟩; have n0_ := Aside0.mk (KeepBut.trans (by repeat (first | (with_reducible first | exact HK.out | apply KeepBut.set_ | apply keep_drewN | apply keep_drew | apply keep_alloc) | exact HK.out)) hk (.inl rfl)); have n1_ := Aside0.mk (hb); have n2_ := Aside0.mk (hi); clear HK; clear HB; clear HI0; have HK := n0_; have HB := n1_; have HI0 := n2_; clear n0_ n1_ n2_; (try clear hb); (try clear hb2); (try clear hk); (try clear hi)) | ((with_reducible refine gate_callee (f := 113) rfl ?_); refine goesL_ (some 9) rfl rfl Try.func113 (by kernel_rfl) rfl #[.pointer (some ⟨g, 0, none⟩), .int .i64 256] rfl (by (try simp only [List.map_toArray, List.map_cons, List.map_nil]); first | done | rfl | (simp only [List.length_drop, List.length_take]; rfl)) ?_; (with_reducible refine (spec_l01Cur_pick.calls g s0_0 t747 t748 256 t749 t750 t751 w0 _ ?side1 ?side2 A4.out).mono ?_); (case side1 => repeat (first | (with_reducible first | exact HI0.out | apply IsS153.alloc | apply IsS153.drewN | apply IsS153.drew | apply IsS153.set_1 | apply IsS153.set_2) | exact HI0.out)); (case side2 => repeat (first | (with_reducible first | exact HB.out | apply below_alloc | apply pw_below_drewN | apply below_drew1 | refine below_set ?_ (IsS153.ge HI0.out)) | exact HB.out)); rintro e w8 ⟨rfl, hi, hb, hk⟩; refine ⟨_, rfl, ?_⟩; have n0_ := Aside0.mk (KeepBut.trans (by repeat (first | (with_reducible first | exact HK.out | apply KeepBut.set_ | apply keep_drewN | apply keep_drew | apply keep_alloc) | exact HK.out)) hk (.inl rfl)); have n1_ := Aside0.mk (hb); have n2_ := Aside0.mk (hi); clear HK; clear HB; clear HI0; have HK := n0_; have HB := n1_; have HI0 := n2_; clear n0_ n1_ n2_; (try clear hb); (try clear hb2); (try clear hk); (try clear hi)) | ((with_reducible refine gate_callee (f := 113) rfl ?_); refine goesL_ (some 13) rfl rfl Try.func113 (by kernel_rfl) rfl #[.pointer (some ⟨g, 0, none⟩), .int .i64 256] rfl (by (try simp only [List.map_toArray, List.map_cons, List.map_nil]); first | done | rfl | (simp only [List.length_drop, List.length_take]; rfl)) ?_; (with_reducible refine (spec_l01Cur_pick.calls g s0_0 t750 t751 256 t752 t753 t754 w0 _ ?side1 ?side2 A5.out).mono ?_); (case side1 => repeat (first | (with_reducible first | exact HI0.out | apply IsS153.alloc | apply IsS153.drewN | apply IsS153.drew | apply IsS153.set_1 | apply IsS153.set_2) | exact HI0.out)); (case side2 => repeat (first | (with_reducible first | exact HB.out | apply below_alloc | apply pw_below_drewN | apply below_drew1 | refine below_set ?_ (IsS153.ge HI0.out)) | exact HB.out)); rintro e w9 ⟨rfl, hi, hb, hk⟩; refine ⟨_, rfl, ?_⟩; have n0_ := Aside0.mk (KeepBut.trans (by repeat (first | (with_reducible first | exact HK.out | apply KeepBut.set_ | apply keep_drewN | apply keep_drew | apply keep_alloc) | exact HK.out)) hk (.inl rfl)); have n1_ := Aside0.mk (hb); have n2_ := Aside0.mk (hi); clear HK; clear HB; clear HI0; have HK := n0_; have HB := n1_; have HI0 := n2_; clear n0_ n1_ n2_; (try clear hb); (try clear hb2); (try clear hk); (try clear hi)))
    go_ret
    exact ⟨by first | rfl | (simp only [i64_w, i32_w] <;> rfl) | (simp [errW_none, errW_some] <;> rfl) | (simp [*, errW_none, errW_some] <;> rfl), by repeat (first | (with_reducible first | exact HI0.out | apply IsS153.alloc | apply IsS153.drewN | apply IsS153.drew | apply IsS153.set_1 | apply IsS153.set_2) | exact HI0.out), by repeat (first | (with_reducible first | exact HB.out | apply below_alloc | apply pw_below_drewN | apply below_drew1 | refine below_set ?_ (IsS153.ge HI0.out)) | exact HB.out), by repeat (first | (with_reducible first | exact HK.out | apply KeepBut.set_ | apply keep_drewN | apply keep_drew | apply keep_alloc) | exact HK.out)⟩

/-! ### spec_l01Cur_ctl: function 143 -/
def spec_l01Cur_ctl.f (k : Nat) (s0_0 : List Int) (s0_1 : Int) (s0_2 : Int) : Option (Int × Int × Int × Int × Int × Int) := (spec_l01Cur_pick.f s0_0 s0_1 s0_2 4).bind fun bt756 => (if bt756.1 = 1 then ((spec_l01Cur_pick.f s0_0 bt756.2.1 bt756.2.2 5).bind fun bt760 => ((spec_l01Cur_pick.f s0_0 bt760.2.1 bt760.2.2 65535).bind fun bt763 => ((spec_PerPage.f k bt760.1).bind fun t766 => ((spec_l04Pow.f k t766).bind fun t767 => (if (wrap64 (t767 - 1)) = 0 then (none) else ((spec_l01Cur_once.f s0_0 bt763.2.1 bt763.2.2 2).bind fun bt768 => (if bt768.1 = true then ((spec_l01Cur_wide.f s0_0 bt768.2.1 bt768.2.2 65535).bind fun bt771 => ((spec_PerPage.f k bt760.1).bind fun t774 => ((spec_l04Pow.f k t774).bind fun t775 => (if (wrap64 (t775 - 1)) = 0 then (none) else (some (bt756.1, bt760.1, (wrap64 (1 + (Int.tmod bt771.1 (wrap64 (t775 - 1))))) % 4294967296, 0, bt771.2.1, bt771.2.2)))))) else (some (bt756.1, bt760.1, (wrap64 (1 + (Int.tmod bt763.1 (wrap64 (t767 - 1))))) % 4294967296, 0, bt768.2.1, bt768.2.2))))))))) else (if bt756.1 = 2 then ((spec_l01Cur_pick.f s0_0 bt756.2.1 bt756.2.2 4).bind fun bt776 => (some (bt756.1, 0, 0, wrap64 (2 + bt776.1), bt776.2.1, bt776.2.2))) else (some (bt756.1, 0, 0, 0, bt756.2.1, bt756.2.2))))
theorem spec_l01Cur_ctl.mono : ∀ a0 a1 a2 k, LeO (spec_l01Cur_ctl.f k a0 a1 a2) (spec_l01Cur_ctl.f (k + 1) a0 a1 a2) := by
  intro a0 a1 a2 k
  unfold spec_l01Cur_ctl.f
  repeat' first
      | (with_reducible exact spec_PerPage.mono _ _)
      | (with_reducible exact spec_l04Pow.mono _ _)
      | (with_reducible exact LeO.refl _)
      | (with_reducible exact LeO.none _)
      | (with_reducible refine LeO.ite ?_ ?_)
      | (with_reducible refine LeO.bind ?_ (fun _ => ?_))
      | exact spec_PerPage.mono _ _
      | exact spec_l04Pow.mono _ _
      | exact LeO.none _
      | refine LeO.ite ?_ ?_
      | refine LeO.bind ?_ (fun _ => ?_)
def spec_l01Cur_ctl.T5 : Bool × List (List Nat × List Nat) := (true, [([], []), ([0], [0]), ([], []), ([2], [2]), ([3, 1], [3]), ([4, 4], [4]), ([5], [5]), ([1, 6], [1, 6]), ([7], [7]), ([8], [8]), ([0, 1, 2, 3, 4, 5, 6, 7, 8, 9], []), ([10, 9, 5, 0, 1, 2, 3, 4, 5, 6, 7, 8, 9], [9, 10])])
def spec_l01Cur_ctl.B5 : List Nat := [0, 1, 0, 4, 15, 31, 63, 127, 255, 511, 1023, 2047]
theorem spec_l01Cur_ctl.tab5 : rtab .any (opsOf Try.f143 5) = spec_l01Cur_ctl.T5 := by kernel_rfl
theorem spec_l01Cur_ctl.bits5 : waitsOk spec_l01Cur_ctl.T5.2 spec_l01Cur_ctl.B5 = true := by kernel_rfl
def spec_l01Cur_ctl.T7 : Bool × List (List Nat × List Nat) := (true, [([], []), ([0], [0]), ([], []), ([2], [2]), ([3, 1], [3]), ([4, 4], [4]), ([5], [5]), ([1, 6], [1, 6]), ([7], [7]), ([8], [8]), ([0, 1, 2, 3, 4, 5, 6, 7, 8, 9], []), ([10, 9, 5, 0, 1, 2, 3, 4, 5, 6, 7, 8, 9], [9, 10])])
def spec_l01Cur_ctl.B7 : List Nat := [0, 1, 0, 4, 15, 31, 63, 127, 255, 511, 1023, 2047]
theorem spec_l01Cur_ctl.tab7 : rtab .any (opsOf Try.f143 7) = spec_l01Cur_ctl.T7 := by kernel_rfl
theorem spec_l01Cur_ctl.bits7 : waitsOk spec_l01Cur_ctl.T7.2 spec_l01Cur_ctl.B7 = true := by kernel_rfl
set_option maxHeartbeats 8000000 in
set_option maxRecDepth 100000 in
theorem spec_l01Cur_ctl.calls (k : Nat) (g : Nat) (s0_0 : List Int) (s0_1 : Int) (s0_2 : Int) (r1 : Int) (r2 : Int) (r3 : Int) (r4 : Int) (r5 : Int) (r6 : Int) (w0 w : World) (hI : IsS153 w0 w g s0_0 s0_1 s0_2) (hB : Below w0.heap.size w0 w) (h : spec_l01Cur_ctl.f k s0_0 s0_1 s0_2 = some (r1, r2, r3, r4, r5, r6)) :
    Calls Try.prog 143 #[.pointer (some ⟨g, 0, none⟩)] w fun e w' => e = .returned (.agg #[.int .i64 r1, .int .i64 r2, .int .u32 r3, .int .i64 r4]) ∧ IsS153 w0 w' g s0_0 r5 r6 ∧ Below w0.heap.size w0 w' ∧ KeepBut w w' g none := by
  have hu78 := Try.underlying78
  have HI0 := Aside0.mk hI
  have HK := Aside0.mk (KeepBut.refl w g none)
  have HL := Aside0.mk hB.size
  clear hI
  have HW0 := Aside0.mk hB.size
  have HB := Aside0.mk hB
  clear hB
  unfold spec_l01Cur_ctl.f at h
  have H := h
  clear h
  replace H := Option.bind_eq_some_iff.mp H
  obtain ⟨⟨t756, t757, t758⟩, A20, H⟩ := H
  try dsimp only at H
  have A2 := Aside0.mk A20
  clear A20
  have HU3 := Aside0.mk H
  clear H
  go_enter Try.func143, Try.ntmps143
  go_upto_if 9 with (first | ((with_reducible refine gate_dst (N := 2) rfl ?_); refine box_event ?hg (N := 2) ?hd (cs := #[.int .i64 0, .int .i64 0, .int .u32 0, .int .i64 0]) (t := 78) ?hr ?_; (case hd => rfl); (case hg => rfl); (case hr => first | (go_simp; done) | (go_simp; rfl)); intro gb755 hg w4 hbox hb; have n0_ := Aside0.mk (IsS153.below (by repeat (first | (with_reducible first | exact HI0.out | apply IsS153.alloc | apply IsS153.drewN | apply IsS153.drew | apply IsS153.set_1 | apply IsS153.set_2) | exact HI0.out)) hb); have n1_ := Aside0.mk (KeepBut.trans (by repeat (first | (with_reducible first | exact HK.out | apply KeepBut.set_ | apply keep_drewN | apply keep_drew | apply keep_alloc) | exact HK.out)) (KeepBut.of_below hb g none) (.inl rfl)); have n2_ := Aside0.mk (below_step (by repeat (first | (with_reducible first | exact HB.out | apply below_alloc | apply pw_below_drewN | apply below_drew1 | refine below_set ?_ (IsS153.ge HI0.out)) | exact HB.out)) hb); have n3_ := Aside0.mk (hbox); have n4_ := Aside0.mk ((by rw [hg]; exact (keep_size (w := w) (g := g) (row := none) (by repeat (first | (with_reducible first | exact HK.out | apply KeepBut.set_ | apply keep_drewN | apply keep_drew | apply keep_alloc) | exact HK.out))) : w.heap.size ≤ gb755)); have n5_ := Aside0.mk ((Nat.le_trans HW0.out (by rw [hg]; exact (keep_size (w := w) (g := g) (row := none) (by repeat (first | (with_reducible first | exact HK.out | apply KeepBut.set_ | apply keep_drewN | apply keep_drew | apply keep_alloc) | exact HK.out))) : w.heap.size ≤ gb755) : w0.heap.size ≤ gb755)); have n6_ := Aside0.mk ((by rw [hg]; exact Nat.ne_of_lt (IsS153.lt (show IsS153 w0 _ g s0_0 s0_1 s0_2 from by repeat (first | (with_reducible first | exact HI0.out | apply IsS153.alloc | apply IsS153.drewN | apply IsS153.drew | apply IsS153.set_1 | apply IsS153.set_2) | exact HI0.out))) : g ≠ gb755)); have n7_ := Aside0.mk ((by rw [hg]; exact Nat.ne_of_gt (IsS153.lt (show IsS153 w0 _ g s0_0 s0_1 s0_2 from by repeat (first | (with_reducible first | exact HI0.out | apply IsS153.alloc | apply IsS153.drewN | apply IsS153.drew | apply IsS153.set_1 | apply IsS153.set_2) | exact HI0.out))) : gb755 ≠ g)); clear HI0; clear HK; clear HB; have HI0 := n0_; have HK := n1_; have HB := n2_; have BK755 := n3_; have GW755 := n4_; have GE755 := n5_; have NB0_755 := n6_; have NB755_0 := n7_; clear n0_ n1_ n2_ n3_ n4_ n5_ n6_ n7_; clear hb hbox hg) | ((with_reducible refine gate_callee (f := 113) rfl ?_); refine goesL_ (some 5) rfl rfl Try.func113 (by kernel_rfl) rfl #[.pointer (some ⟨g, 0, none⟩), .int .i64 4] rfl (by (try simp only [List.map_toArray, List.map_cons, List.map_nil]); first | done | rfl | (simp only [List.length_drop, List.length_take]; rfl)) ?_; (with_reducible refine (spec_l01Cur_pick.calls g s0_0 s0_1 s0_2 4 t756 t757 t758 w0 _ ?side1 ?side2 A2.out).mono ?_); (case side1 => repeat (first | (with_reducible first | exact HI0.out | apply IsS153.alloc | apply IsS153.drewN | apply IsS153.drew | apply IsS153.set_1 | apply IsS153.set_2 | refine IsS153.far ?_ NB0_755.out _) | exact HI0.out)); (case side2 => repeat (first | (with_reducible first | exact HB.out | apply below_alloc | apply pw_below_drewN | apply below_drew1 | refine below_set ?_ (IsS153.ge HI0.out) | refine below_set ?_ GE755.out) | exact HB.out)); rintro e w5 ⟨rfl, hi, hb, hk⟩; refine ⟨_, rfl, ?_⟩; have n0_ := Aside0.mk (KeepBut.blk hk (g' := gb755) (o := .cells #[.int .i64 0, .int .i64 0, .int .u32 0, .int .i64 0] 78 (0, 0)) (by (with_reducible repeat (first | refine blk_drewN ?_ _ | refine blk_drew ?_ | refine blk_alloc ?_ _)); exact BK755.out) NB755_0.out (by simp)); have n1_ := Aside0.mk (KeepBut.trans (by repeat (first | (with_reducible first | exact HK.out | apply KeepBut.set_ | apply keep_drewN | apply keep_drew | apply keep_alloc | refine keep_far ?_ GW755.out _) | exact HK.out)) hk (.inl rfl)); have n2_ := Aside0.mk (hb); have n3_ := Aside0.mk (hi); clear BK755; clear HK; clear HB; clear HI0; have BK755 := n0_; have HK := n1_; have HB := n2_; have HI0 := n3_; clear n0_ n1_ n2_ n3_; (try clear hb); (try clear hb2); (try clear hk); (try clear hi)) | ((with_reducible refine gate_dst (N := 3) rfl ?_); refine box_event ?hg (N := 3) ?hd (cs := #[.int .i64 0, .int .i64 0, .int .u32 0, .int .i64 0]) (t := 78) ?hr ?_; (case hd => rfl); (case hg => rfl); (case hr => first | (go_simp; done) | (go_simp; rfl)); intro gb759 hg w6 hbox hb; have n0_ := Aside0.mk (IsS153.below (by repeat (first | (with_reducible first | exact HI0.out | apply IsS153.alloc | apply IsS153.drewN | apply IsS153.drew | apply IsS153.set_1 | apply IsS153.set_2 | refine IsS153.far ?_ NB0_755.out _) | exact HI0.out)) hb); have n1_ := Aside0.mk (blk_below (g := gb755) (o := .cells #[.int .i64 0, .int .i64 0, .int .u32 0, .int .i64 0] 78 (0, 0)) (by (with_reducible repeat (first | refine blk_drewN ?_ _ | refine blk_drew ?_ | refine blk_alloc ?_ _)); exact BK755.out) hb); have n2_ := Aside0.mk (KeepBut.trans (by repeat (first | (with_reducible first | exact HK.out | apply KeepBut.set_ | apply keep_drewN | apply keep_drew | apply keep_alloc | refine keep_far ?_ GW755.out _) | exact HK.out)) (KeepBut.of_below hb g none) (.inl rfl)); have n3_ := Aside0.mk (below_step (by repeat (first | (with_reducible first | exact HB.out | apply below_alloc | apply pw_below_drewN | apply below_drew1 | refine below_set ?_ (IsS153.ge HI0.out) | refine below_set ?_ GE755.out) | exact HB.out)) hb); have n4_ := Aside0.mk (hbox); have n5_ := Aside0.mk ((by rw [hg]; exact (keep_size (w := w) (g := g) (row := none) (by repeat (first | (with_reducible first | exact HK.out | apply KeepBut.set_ | apply keep_drewN | apply keep_drew | apply keep_alloc | refine keep_far ?_ GW755.out _) | exact HK.out))) : w.heap.size ≤ gb759)); have n6_ := Aside0.mk ((Nat.le_trans HW0.out (by rw [hg]; exact (keep_size (w := w) (g := g) (row := none) (by repeat (first | (with_reducible first | exact HK.out | apply KeepBut.set_ | apply keep_drewN | apply keep_drew | apply keep_alloc | refine keep_far ?_ GW755.out _) | exact HK.out))) : w.heap.size ≤ gb759) : w0.heap.size ≤ gb759)); have n7_ := Aside0.mk ((by rw [hg]; exact Nat.ne_of_lt (blk_lt (g := gb755) (o := .cells #[.int .i64 0, .int .i64 0, .int .u32 0, .int .i64 0] 78 (0, 0)) (by (with_reducible repeat (first | refine blk_drewN ?_ _ | refine blk_drew ?_ | refine blk_alloc ?_ _)); exact BK755.out)) : gb755 ≠ gb759)); have n8_ := Aside0.mk ((by rw [hg]; exact Nat.ne_of_gt (blk_lt (g := gb755) (o := .cells #[.int .i64 0, .int .i64 0, .int .u32 0, .int .i64 0] 78 (0, 0)) (by (with_reducible repeat (first | refine blk_drewN ?_ _ | refine blk_drew ?_ | refine blk_alloc ?_ _)); exact BK755.out)) : gb759 ≠ gb755)); have n9_ := Aside0.mk ((by rw [hg]; exact Nat.ne_of_lt (IsS153.lt (show IsS153 w0 _ g s0_0 t757 t758 from by repeat (first | (with_reducible first | exact HI0.out | apply IsS153.alloc | apply IsS153.drewN | apply IsS153.drew | apply IsS153.set_1 | apply IsS153.set_2 | refine IsS153.far ?_ NB0_755.out _) | exact HI0.out))) : g ≠ gb759)); have n10_ := Aside0.mk ((by rw [hg]; exact Nat.ne_of_gt (IsS153.lt (show IsS153 w0 _ g s0_0 t757 t758 from by repeat (first | (with_reducible first | exact HI0.out | apply IsS153.alloc | apply IsS153.drewN | apply IsS153.drew | apply IsS153.set_1 | apply IsS153.set_2 | refine IsS153.far ?_ NB0_755.out _) | exact HI0.out))) : gb759 ≠ g)); clear HI0; clear BK755; clear HK; clear HB; have HI0 := n0_; have BK755 := n1_; have HK := n2_; have HB := n3_; have BK759 := n4_; have GW759 := n5_; have GE759 := n6_; have NB755_759 := n7_; have NB759_755 := n8_; have NB0_759 := n9_; have NB759_0 := n10_; clear n0_ n1_ n2_ n3_ n4_ n5_ n6_ n7_ n8_ n9_ n10_; clear hb hbox hg; have hnb7 := NB759_755.out; have hnc7 := NB755_759.out; have hnb8 := NB759_0.out; have hnc8 := NB0_759.out; have hcz9_0 : w6.cell? ⟨gb759, 0, none⟩ = some (.int .i64 0) := (blk_cell BK759.out 0).trans rfl; have hcz9_1 : w6.cell? ⟨gb759, 1, none⟩ = some (.int .i64 0) := (blk_cell BK759.out 1).trans rfl; have hcz9_2 : w6.cell? ⟨gb759, 2, none⟩ = some (.int .u32 0) := (blk_cell BK759.out 2).trans rfl; have hcz9_3 : w6.cell? ⟨gb759, 3, none⟩ = some (.int .i64 0) := (blk_cell BK759.out 3).trans rfl; have hfz9_0 := blk_frozen BK759.out 0; have hfz9_1 := blk_frozen BK759.out 1; have hfz9_2 := blk_frozen BK759.out 2; have hfz9_3 := blk_frozen BK759.out 3))
  (try simp only [Act.put, List.setIfInBounds_toArray, List.set_cons_zero, List.set_cons_succ])
  have H := HU3.out
  clear HU3
  by_cases c10 : t756 = 1
  · rw [if_pos c10] at H
    have c10b0 : (t756 == 1) = true := beq_iff_eq.mpr c10
    have c10b1 : (t756 != 1) = false := bne_eq_false_iff_eq.mpr c10
    clear c10
    (first | rw [c10b0] | (simp only [i64_w, i32_w]; rw [c10b0]) | (simp only [c10b2, Bool.not_true, Bool.not_false]) | (simp only [c10b1, Bool.not_true, Bool.not_false]) | skip)
    replace H := Option.bind_eq_some_iff.mp H
    obtain ⟨⟨t760, t761, t762⟩, A110, H⟩ := H
    try dsimp only at H
    have A11 := Aside0.mk A110
    clear A110
    replace H := Option.bind_eq_some_iff.mp H
    obtain ⟨⟨t763, t764, t765⟩, A120, H⟩ := H
    try dsimp only at H
    have A12 := Aside0.mk A120
    clear A120
    replace H := Option.bind_eq_some_iff.mp H
    obtain ⟨t766, A130, H⟩ := H
    try dsimp only at H
    have A13 := Aside0.mk A130
    clear A130
    replace H := Option.bind_eq_some_iff.mp H
    obtain ⟨t767, A140, H⟩ := H
    try dsimp only at H
    have A14 := Aside0.mk A140
    clear A140
    by_cases c15 : (wrap64 (t767 - 1)) = 0
    · rw [if_pos c15] at H
      exact absurd H (by simp)
    · rw [if_neg c15] at H
      have c15b0 : ((wrap64 (t767 - 1)) == 0) = false := beq_eq_false_iff_ne.mpr c15
      have c15b1 : ((wrap64 (t767 - 1)) != 0) = true := bne_iff_ne.mpr c15
      replace H := Option.bind_eq_some_iff.mp H
      obtain ⟨⟨t768, t769, t770⟩, A160, H⟩ := H
      try dsimp only at H
      have A16 := Aside0.mk A160
      clear A160
      have HU17 := Aside0.mk H
      clear H
      try go_wp2_with (first | ((with_reducible refine gate_callee (f := 113) rfl ?_); refine goesL_ (some 12) rfl rfl Try.func113 (by kernel_rfl) rfl #[.pointer (some ⟨g, 0, none⟩), .int .i64 5] rfl (by (try simp only [List.map_toArray, List.map_cons, List.map_nil]); first | done | rfl | (simp only [List.length_drop, List.length_take]; rfl)) ?_; (with_reducible refine (spec_l01Cur_pick.calls g s0_0 t757 t758 5 t760 t761 t762 w0 _ ?side1 ?side2 A11.out).mono ?_); (case side1 => repeat (first | (with_reducible first | exact HI0.out | apply IsS153.alloc | apply IsS153.drewN | apply IsS153.drew | apply IsS153.set_1 | apply IsS153.set_2 | refine IsS153.far ?_ NB0_755.out _ | refine IsS153.far ?_ NB0_759.out _) | exact HI0.out)); (case side2 => repeat (first | (with_reducible first | exact HB.out | apply below_alloc | apply pw_below_drewN | apply below_drew1 | refine below_set ?_ (IsS153.ge HI0.out) | refine below_set ?_ GE755.out | refine below_set ?_ GE759.out) | exact HB.out)); rintro e w18 ⟨rfl, hi, hb, hk⟩; refine ⟨_, rfl, ?_⟩; have n0_ := Aside0.mk (KeepBut.blk hk (g' := gb755) (o := .cells #[.int .i64 0, .int .i64 0, .int .u32 0, .int .i64 0] 78 (0, 0)) (by (with_reducible repeat (first | refine blk_drewN ?_ _ | refine blk_drew ?_ | refine blk_alloc ?_ _)); refine blk_far ?_ NB755_759.out _; (with_reducible repeat (first | refine blk_drewN ?_ _ | refine blk_drew ?_ | refine blk_alloc ?_ _)); refine blk_far ?_ NB755_759.out _; (with_reducible repeat (first | refine blk_drewN ?_ _ | refine blk_drew ?_ | refine blk_alloc ?_ _)); refine blk_far ?_ NB755_759.out _; (with_reducible repeat (first | refine blk_drewN ?_ _ | refine blk_drew ?_ | refine blk_alloc ?_ _)); refine blk_far ?_ NB755_759.out _; (with_reducible repeat (first | refine blk_drewN ?_ _ | refine blk_drew ?_ | refine blk_alloc ?_ _)); exact BK755.out) NB755_0.out (by simp)); have n1_ := Aside0.mk (KeepBut.blk hk (g' := gb759) (o := .cells #[.int .i64 t756, .int .i64 0, .int .u32 0, .int .i64 0] 78 (0, 0)) (by (with_reducible repeat (first | refine blk_drewN ?_ _ | refine blk_drew ?_ | refine blk_alloc ?_ _)); refine blk_put (cs := #[.int .i64 t756, .int .i64 0, .int .u32 0, .int .i64 0]) ?_ 3 _ rfl; (with_reducible repeat (first | refine blk_drewN ?_ _ | refine blk_drew ?_ | refine blk_alloc ?_ _)); refine blk_put (cs := #[.int .i64 t756, .int .i64 0, .int .u32 0, .int .i64 0]) ?_ 2 _ rfl; (with_reducible repeat (first | refine blk_drewN ?_ _ | refine blk_drew ?_ | refine blk_alloc ?_ _)); refine blk_put (cs := #[.int .i64 t756, .int .i64 0, .int .u32 0, .int .i64 0]) ?_ 1 _ rfl; (with_reducible repeat (first | refine blk_drewN ?_ _ | refine blk_drew ?_ | refine blk_alloc ?_ _)); refine blk_put (cs := #[.int .i64 0, .int .i64 0, .int .u32 0, .int .i64 0]) ?_ 0 _ rfl; (with_reducible repeat (first | refine blk_drewN ?_ _ | refine blk_drew ?_ | refine blk_alloc ?_ _)); exact BK759.out) NB759_0.out (by simp)); have n2_ := Aside0.mk (KeepBut.trans (by repeat (first | (with_reducible first | exact HK.out | apply KeepBut.set_ | apply keep_drewN | apply keep_drew | apply keep_alloc | refine keep_far ?_ GW755.out _ | refine keep_far ?_ GW759.out _) | exact HK.out)) hk (.inl rfl)); have n3_ := Aside0.mk (hb); have n4_ := Aside0.mk (hi); clear BK755; clear BK759; clear HK; clear HB; clear HI0; have BK755 := n0_; have BK759 := n1_; have HK := n2_; have HB := n3_; have HI0 := n4_; clear n0_ n1_ n2_ n3_ n4_; (try clear hb); (try clear hb2); (try clear hk); (try clear hi); have hnb19 := NB759_755.out; have hnc19 := NB755_759.out; have hnb20 := NB759_0.out; have hnc20 := NB0_759.out; have hcz21_0 : w18.cell? ⟨gb759, 0, none⟩ = some (.int .i64 t756) := (blk_cell BK759.out 0).trans rfl; have hcz21_1 : w18.cell? ⟨gb759, 1, none⟩ = some (.int .i64 0) := (blk_cell BK759.out 1).trans rfl; have hcz21_2 : w18.cell? ⟨gb759, 2, none⟩ = some (.int .u32 0) := (blk_cell BK759.out 2).trans rfl; have hcz21_3 : w18.cell? ⟨gb759, 3, none⟩ = some (.int .i64 0) := (blk_cell BK759.out 3).trans rfl; have hfz21_0 := blk_frozen BK759.out 0; have hfz21_1 := blk_frozen BK759.out 1; have hfz21_2 := blk_frozen BK759.out 2; have hfz21_3 := blk_frozen BK759.out 3))
      have n0_ : Aside0 ((w18.setCell ⟨gb759, 1, none⟩ (.int .i64 t760)).heap[gb755]? = some (.cells #[.int .i64 0, .int .i64 0, .int .u32 0, .int .i64 0] 78 (0, 0))) := ⟨by (with_reducible repeat (first | refine blk_drewN ?_ _ | refine blk_drew ?_ | refine blk_alloc ?_ _)); refine blk_far ?_ NB755_759.out _; (with_reducible repeat (first | refine blk_drewN ?_ _ | refine blk_drew ?_ | refine blk_alloc ?_ _)); exact BK755.out⟩
      have n1_ : Aside0 ((w18.setCell ⟨gb759, 1, none⟩ (.int .i64 t760)).heap[gb759]? = some (.cells #[.int .i64 t756, .int .i64 t760, .int .u32 0, .int .i64 0] 78 (0, 0))) := ⟨by (with_reducible repeat (first | refine blk_drewN ?_ _ | refine blk_drew ?_ | refine blk_alloc ?_ _)); refine blk_put (cs := #[.int .i64 t756, .int .i64 0, .int .u32 0, .int .i64 0]) ?_ 1 _ rfl; (with_reducible repeat (first | refine blk_drewN ?_ _ | refine blk_drew ?_ | refine blk_alloc ?_ _)); exact BK759.out⟩
      have n2_ : Aside0 (IsS153 w0 (w18.setCell ⟨gb759, 1, none⟩ (.int .i64 t760)) g s0_0 t761 t762) := ⟨by repeat (first | (with_reducible first | exact HI0.out | apply IsS153.alloc | apply IsS153.drewN | apply IsS153.drew | apply IsS153.set_1 | apply IsS153.set_2 | refine IsS153.far ?_ NB0_755.out _ | refine IsS153.far ?_ NB0_759.out _) | exact HI0.out)⟩
      have n3_ : Aside0 (KeepBut w (w18.setCell ⟨gb759, 1, none⟩ (.int .i64 t760)) g none) := ⟨by repeat (first | (with_reducible first | exact HK.out | apply KeepBut.set_ | apply keep_drewN | apply keep_drew | apply keep_alloc | refine keep_far ?_ GW755.out _ | refine keep_far ?_ GW759.out _) | exact HK.out)⟩
      have n4_ : Aside0 (Below w0.heap.size w0 (w18.setCell ⟨gb759, 1, none⟩ (.int .i64 t760))) := ⟨by repeat (first | (with_reducible first | exact HB.out | apply below_alloc | apply pw_below_drewN | apply below_drew1 | refine below_set ?_ (IsS153.ge HI0.out) | refine below_set ?_ GE755.out | refine below_set ?_ GE759.out) | exact HB.out)⟩
      (try clear BK755)
      (try clear BK759)
      (try clear HI0)
      (try clear HK)
      (try clear HB)
      generalize (w18.setCell ⟨gb759, 1, none⟩ (.int .i64 t760)) = w22 at n0_ n1_ n2_ n3_ n4_ ⊢
      have BK755 := n0_
      have BK759 := n1_
      have HI0 := n2_
      have HK := n3_
      have HB := n4_
      clear n0_ n1_ n2_ n3_ n4_
      have n0_ := Aside0.mk (blk_drew BK755.out)
      have n1_ := Aside0.mk (blk_drew BK759.out)
      have n2_ := Aside0.mk (IsS153.drew HI0.out)
      have n3_ := Aside0.mk (keep_drew HK.out)
      have n4_ := Aside0.mk (below_drew1 HB.out)
      clear BK755
      clear BK759
      clear HI0
      clear HK
      clear HB
      have BK755 := n0_
      have BK759 := n1_
      have HI0 := n2_
      have HK := n3_
      have HB := n4_
      clear n0_ n1_ n2_ n3_ n4_
      refine start_ (n := 12) (S := fun w' => w'.cell? ⟨gb759, 0, none⟩ = some (.int .i64 t756) ∧ w'.cell? ⟨gb759, 1, none⟩ = some (.int .i64 t760) ∧ w'.cell? ⟨gb759, 2, none⟩ = some (.int .u32 0) ∧ w'.cell? ⟨gb759, 3, none⟩ = some (.int .i64 0)) (ds := [11]) #[false, false, false, false, false, false, false, false, false, false, false, false] (by kernel_rfl) rfl rfl ⟨(blk_cell BK759.out 0).trans rfl, (blk_cell BK759.out 1).trans rfl, (blk_cell BK759.out 2).trans rfl, (blk_cell BK759.out 3).trans rfl⟩ (fun hHeld => ?_); refine with_tabW spec_l01Cur_ctl.tab5 spec_l01Cur_ctl.bits5 (fun HT_ HW_ => ?_)
      generalize w22.drew = w23 at BK755 BK759 HI0 HK HB hHeld ⊢
      refine pure_ (i := 0) (N := some 14) (v := ?_) (a' := ?_) #[true, false, false, false, false, false, false, false, false, false, false, false] rfl rfl (any_of HT_.out (by kernel_rfl)) (fun _ _ _ h => h) (Or.inl ⟨by rfl, ?_⟩) ?_ ?_
      rotate_left
      · intro w'
        go_simp
        with_reducible rfl
      rotate_left
      · simp only [Act.put, List.setIfInBounds_toArray, List.set_cons_zero, List.set_cons_succ, i64_w, i32_w]
        rfl
      refine pure_ (i := 2) (N := some 16) (v := ?_) (a' := ?_) #[true, false, true, false, false, false, false, false, false, false, false, false] rfl rfl (any_of HT_.out (by kernel_rfl)) (fun _ _ _ h => h) (Or.inl ⟨by rfl, ?_⟩) ?_ ?_
      rotate_left
      · intro w'
        go_simp
        with_reducible rfl
      rotate_left
      · simp only [Act.put, List.setIfInBounds_toArray, List.set_cons_zero, List.set_cons_succ, i64_w, i32_w]
        rfl
      refine take_ (i := 3) (N := some 17) (v := ?_) (a' := ?_) #[true, false, true, true, false, false, false, false, false, false, false, false] rfl rfl (take_ofW HT_.out HW_.out (by kernel_rfl)) (fun _ _ _ h => h) (Or.inl ⟨by rfl, ?_⟩) hHeld ?_ ?_
      rotate_left
      · rintro w' ⟨s0, s1, s2, s3⟩
        go_simp
        with_reducible rfl
      rotate_left
      · simp only [Act.put, List.setIfInBounds_toArray, List.set_cons_zero, List.set_cons_succ, i64_w, i32_w]
        rfl
      refine one_ (i := 1) (N := some 15) #[true, true, true, true, false, false, false, false, false, false, false, false] rfl rfl (one_of HT_.out (by kernel_rfl)) (by decide) (fun K hK => ?_)
      refine goes_ Try.func113 (by kernel_rfl) rfl #[.pointer (some ⟨g, 0, none⟩), .int .i64 65535] (by rfl) rfl rfl (by (try simp only [List.map_toArray, List.map_cons, List.map_nil]); first | done | rfl | (simp only [List.length_drop, List.length_take]; rfl)) ?_
      with_reducible refine (spec_l01Cur_pick.calls g s0_0 t761 t762 65535 t763 t764 t765 w0 _ ?side1 ?side2 A12.out).mono ?_
      (case side1 => repeat (first | (with_reducible first | exact HI0.out | apply IsS153.alloc | apply IsS153.drewN | apply IsS153.drew | apply IsS153.set_1 | apply IsS153.set_2 | refine IsS153.far ?_ NB0_755.out _ | refine IsS153.far ?_ NB0_759.out _) | exact HI0.out))
      (case side2 => repeat (first | (with_reducible first | exact HB.out | apply below_alloc | apply pw_below_drewN | apply below_drew1 | refine below_set ?_ (IsS153.ge HI0.out) | refine below_set ?_ GE755.out | refine below_set ?_ GE759.out) | exact HB.out))
      rintro e w24 ⟨rfl, hi, hb, hk⟩
      refine ⟨_, rfl, ?_⟩
      have n0_ := Aside0.mk (KeepBut.blk hk (g' := gb755) (o := .cells #[.int .i64 0, .int .i64 0, .int .u32 0, .int .i64 0] 78 (0, 0)) (by (with_reducible repeat (first | refine blk_drewN ?_ _ | refine blk_drew ?_ | refine blk_alloc ?_ _)); exact BK755.out) NB755_0.out (by simp))
      have n1_ := Aside0.mk (KeepBut.blk hk (g' := gb759) (o := .cells #[.int .i64 t756, .int .i64 t760, .int .u32 0, .int .i64 0] 78 (0, 0)) (by (with_reducible repeat (first | refine blk_drewN ?_ _ | refine blk_drew ?_ | refine blk_alloc ?_ _)); exact BK759.out) NB759_0.out (by simp))
      have n2_ := Aside0.mk (KeepBut.trans (by repeat (first | (with_reducible first | exact HK.out | apply KeepBut.set_ | apply keep_drewN | apply keep_drew | apply keep_alloc | refine keep_far ?_ GW755.out _ | refine keep_far ?_ GW759.out _) | exact HK.out)) hk (.inl rfl))
      have n3_ := Aside0.mk (hb)
      have n4_ := Aside0.mk (hi)
      clear BK755
      clear BK759
      clear HK
      clear HB
      clear HI0
      have BK755 := n0_
      have BK759 := n1_
      have HK := n2_
      have HB := n3_
      have HI0 := n4_
      clear n0_ n1_ n2_ n3_ n4_
      (try clear hb)
      (try clear hb2)
      (try clear hk)
      (try clear hi)
      refine hK.out _ _ ⟨(blk_cell BK759.out 0).trans rfl, (blk_cell BK759.out 1).trans rfl, (blk_cell BK759.out 2).trans rfl, (blk_cell BK759.out 3).trans rfl⟩ (fun hHeld => ?_)
      clear hK K
      refine norm_ (a' := ?_) ?_ ?_
      rotate_left
      · show Act.put _ (some 15) _ = _
        simp only [Act.put, List.setIfInBounds_toArray, List.set_cons_zero, List.set_cons_succ, i64_w, i32_w]
        rfl
      refine one_ (i := 4) (N := some 18) #[true, true, true, true, true, false, false, false, false, false, false, false] rfl rfl (one_of HT_.out (by kernel_rfl)) (by decide) (fun K hK => ?_)
      refine goes_ Try.func87 (by kernel_rfl) rfl #[.int .i64 t760] (by rfl) rfl rfl (by (try simp only [List.map_toArray, List.map_cons, List.map_nil]); first | done | rfl | (simp only [List.length_drop, List.length_take]; rfl)) ?_
      with_reducible refine (spec_PerPage.calls k t760 t766 _ A13.out).mono ?_
      rintro e w' ⟨rfl, ⟨nd, rfl⟩⟩
      refine ⟨_, rfl, ?_⟩
      refine hK.out _ _ ⟨(blk_cell BK759.out 0).trans rfl, (blk_cell BK759.out 1).trans rfl, (blk_cell BK759.out 2).trans rfl, (blk_cell BK759.out 3).trans rfl⟩ (fun hHeld => ?_)
      clear hK K
      refine norm_ (a' := ?_) ?_ ?_
      rotate_left
      · show Act.put _ (some 18) _ = _
        simp only [Act.put, List.setIfInBounds_toArray, List.set_cons_zero, List.set_cons_succ, i64_w, i32_w]
        rfl
      refine one_ (i := 5) (N := some 19) #[true, true, true, true, true, true, false, false, false, false, false, false] rfl rfl (one_of HT_.out (by kernel_rfl)) (by decide) (fun K hK => ?_)
      refine goes_ Try.func136 (by kernel_rfl) rfl #[.int .i64 t766] (by rfl) rfl rfl (by (try simp only [List.map_toArray, List.map_cons, List.map_nil]); first | done | rfl | (simp only [List.length_drop, List.length_take]; rfl)) ?_
      with_reducible refine (spec_l04Pow.calls k t766 t767 _ A14.out).mono ?_
      rintro e w' ⟨rfl, ⟨nd, rfl⟩⟩
      refine ⟨_, rfl, ?_⟩
      refine hK.out _ _ ⟨(blk_cell BK759.out 0).trans rfl, (blk_cell BK759.out 1).trans rfl, (blk_cell BK759.out 2).trans rfl, (blk_cell BK759.out 3).trans rfl⟩ (fun hHeld => ?_)
      clear hK K
      refine norm_ (a' := ?_) ?_ ?_
      rotate_left
      · show Act.put _ (some 19) _ = _
        simp only [Act.put, List.setIfInBounds_toArray, List.set_cons_zero, List.set_cons_succ, i64_w, i32_w]
        rfl
      refine pure_ (i := 6) (N := some 20) (v := ?_) (a' := ?_) #[true, true, true, true, true, true, true, false, false, false, false, false] rfl rfl (any_of HT_.out (by kernel_rfl)) (fun _ _ _ h => h) (Or.inl ⟨by rfl, ?_⟩) ?_ ?_
      rotate_left
      · intro w'
        go_simp
        with_reducible rfl
      rotate_left
      · simp only [Act.put, List.setIfInBounds_toArray, List.set_cons_zero, List.set_cons_succ, i64_w, i32_w]
        rfl
      refine pure_ (i := 7) (N := some 21) (v := ?_) (a' := ?_) #[true, true, true, true, true, true, true, true, false, false, false, false] rfl rfl (any_of HT_.out (by kernel_rfl)) (fun _ _ _ h => h) (Or.inl ⟨by rfl, ?_⟩) ?_ ?_
      rotate_left
      · intro w'
        go_simp
        with_reducible rfl
      rotate_left
      · simp only [Act.put, List.setIfInBounds_toArray, List.set_cons_zero, List.set_cons_succ, i64_w, i32_w]
        rfl
      refine pure_ (i := 8) (N := some 22) (v := ?_) (a' := ?_) #[true, true, true, true, true, true, true, true, true, false, false, false] rfl rfl (any_of HT_.out (by kernel_rfl)) (fun _ _ _ h => h) (Or.inl ⟨by rfl, ?_⟩) ?_ ?_
      rotate_left
      · intro w'
        go_simp
        with_reducible rfl
      rotate_left
      · simp only [Act.put, List.setIfInBounds_toArray, List.set_cons_zero, List.set_cons_succ, i64_w, i32_w]
        rfl
      refine pure_ (i := 9) (N := some 23) (v := ?_) (a' := ?_) #[true, true, true, true, true, true, true, true, true, true, false, false] rfl rfl (any_of HT_.out (by kernel_rfl)) (fun _ _ _ h => h) (Or.inl ⟨by rfl, ?_⟩) ?_ ?_
      rotate_left
      · intro w'
        go_simp
        with_reducible rfl
      rotate_left
      · simp only [Act.put, List.setIfInBounds_toArray, List.set_cons_zero, List.set_cons_succ, i64_w, i32_w]
        rfl
      refine pure_ (i := 10) (N := some 24) (v := ?_) (a' := ?_) #[true, true, true, true, true, true, true, true, true, true, true, false] rfl rfl (any_of HT_.out (by kernel_rfl)) (fun _ _ _ h => h) (Or.inl ⟨by rfl, ?_⟩) ?_ ?_
      rotate_left
      · intro w'
        go_simp
        with_reducible rfl
      rotate_left
      · simp only [Act.put, List.setIfInBounds_toArray, List.set_cons_zero, List.set_cons_succ, i64_w, i32_w]
        rfl
      refine last_ (i := 11) (N := none) #[true, true, true, true, true, true, true, true, true, true, true, true] rfl rfl (one_of HT_.out (by kernel_rfl)) (by decide) (fun K hK => ?_)
      have hs25 : w24.cell? ⟨gb759, 2, none⟩ = some (.int .u32 0) := (blk_cell BK759.out 2).trans rfl
      have hfs25 := blk_frozen BK759.out 2
      have hns25_0 := NB755_759.out
      have hms25_0 := NB759_755.out
      refine skip_ (w1 := ?_) (by rfl) rfl ?_ ?_
      rotate_left
      · go_simp
        rfl
      refine hK.out _ _ ?_
      clear hK K
      refine done_ (done_of HT_.out (by kernel_rfl)) ?_
      go_upto_if 26 with (first | ((with_reducible refine gate_callee (f := 112) rfl ?_); refine goesL_ (some 26) rfl rfl Try.func112 (by kernel_rfl) rfl #[.pointer (some ⟨g, 0, none⟩), .int .i64 2] rfl (by (try simp only [List.map_toArray, List.map_cons, List.map_nil]); first | done | rfl | (simp only [List.length_drop, List.length_take]; rfl)) ?_; (with_reducible refine (spec_l01Cur_once.calls g s0_0 t764 t765 2 t768 t769 t770 w0 _ ?side1 ?side2 A16.out).mono ?_); (case side1 => repeat (first | (with_reducible first | exact HI0.out | apply IsS153.alloc | apply IsS153.drewN | apply IsS153.drew | apply IsS153.set_1 | apply IsS153.set_2 | refine IsS153.far ?_ NB0_755.out _ | refine IsS153.far ?_ NB0_759.out _) | exact HI0.out)); (case side2 => repeat (first | (with_reducible first | exact HB.out | apply below_alloc | apply pw_below_drewN | apply below_drew1 | refine below_set ?_ (IsS153.ge HI0.out) | refine below_set ?_ GE755.out | refine below_set ?_ GE759.out) | exact HB.out)); rintro e w26 ⟨rfl, hi, hb, hk⟩; refine ⟨_, rfl, ?_⟩; have n0_ := Aside0.mk (KeepBut.blk hk (g' := gb755) (o := .cells #[.int .i64 0, .int .i64 0, .int .u32 0, .int .i64 0] 78 (0, 0)) (by (with_reducible repeat (first | refine blk_drewN ?_ _ | refine blk_drew ?_ | refine blk_alloc ?_ _)); refine blk_far ?_ NB755_759.out _; (with_reducible repeat (first | refine blk_drewN ?_ _ | refine blk_drew ?_ | refine blk_alloc ?_ _)); exact BK755.out) NB755_0.out (by simp)); have n1_ := Aside0.mk (KeepBut.blk hk (g' := gb759) (o := .cells #[.int .i64 t756, .int .i64 t760, .int .u32 ((wrap64 (1 + (Int.tmod t763 (wrap64 (t767 - 1))))) % 4294967296), .int .i64 0] 78 (0, 0)) (by (with_reducible repeat (first | refine blk_drewN ?_ _ | refine blk_drew ?_ | refine blk_alloc ?_ _)); refine blk_put (cs := #[.int .i64 t756, .int .i64 t760, .int .u32 0, .int .i64 0]) ?_ 2 _ rfl; (with_reducible repeat (first | refine blk_drewN ?_ _ | refine blk_drew ?_ | refine blk_alloc ?_ _)); exact BK759.out) NB759_0.out (by simp)); have n2_ := Aside0.mk (KeepBut.trans (by repeat (first | (with_reducible first | exact HK.out | apply KeepBut.set_ | apply keep_drewN | apply keep_drew | apply keep_alloc | refine keep_far ?_ GW755.out _ | refine keep_far ?_ GW759.out _) | exact HK.out)) hk (.inl rfl)); have n3_ := Aside0.mk (hb); have n4_ := Aside0.mk (hi); clear BK755; clear BK759; clear HK; clear HB; clear HI0; have BK755 := n0_; have BK759 := n1_; have HK := n2_; have HB := n3_; have HI0 := n4_; clear n0_ n1_ n2_ n3_ n4_; (try clear hb); (try clear hb2); (try clear hk); (try clear hi)))
      (try simp only [Act.put, List.setIfInBounds_toArray, List.set_cons_zero, List.set_cons_succ])
      have H := HU17.out
      clear HU17
      by_cases c27 : t768 = true
      · subst c27
        (try simp only [Bool.not_true, Bool.not_false])
        rw [if_pos rfl] at H
        replace H := Option.bind_eq_some_iff.mp H
        obtain ⟨⟨t771, t772, t773⟩, A280, H⟩ := H
        try dsimp only at H
        have A28 := Aside0.mk A280
        clear A280
        replace H := Option.bind_eq_some_iff.mp H
        obtain ⟨t774, A290, H⟩ := H
        try dsimp only at H
        have A29 := Aside0.mk A290
        clear A290
        replace H := Option.bind_eq_some_iff.mp H
        obtain ⟨t775, A300, H⟩ := H
        try dsimp only at H
        have A30 := Aside0.mk A300
        clear A300
        by_cases c31 : (wrap64 (t775 - 1)) = 0
        · rw [if_pos c31] at H
          exact absurd H (by simp)
        · rw [if_neg c31] at H
          have c31b0 : ((wrap64 (t775 - 1)) == 0) = false := beq_eq_false_iff_ne.mpr c31
          have c31b1 : ((wrap64 (t775 - 1)) != 0) = true := bne_iff_ne.mpr c31
          simp only [Option.some.injEq, Prod.mk.injEq] at H
          obtain ⟨rfl, rfl, rfl, rfl, rfl, rfl⟩ := H
          try go_wp2
          have n0_ := Aside0.mk (blk_drew BK755.out)
          have n1_ := Aside0.mk (blk_drew BK759.out)
          have n2_ := Aside0.mk (IsS153.drew HI0.out)
          have n3_ := Aside0.mk (keep_drew HK.out)
          have n4_ := Aside0.mk (below_drew1 HB.out)
          clear BK755
          clear BK759
          clear HI0
          clear HK
          clear HB
          have BK755 := n0_
          have BK759 := n1_
          have HI0 := n2_
          have HK := n3_
          have HB := n4_
          clear n0_ n1_ n2_ n3_ n4_
          refine start_ (n := 12) (S := fun w' => w'.cell? ⟨gb759, 0, none⟩ = some (.int .i64 t756) ∧ w'.cell? ⟨gb759, 1, none⟩ = some (.int .i64 t760) ∧ w'.cell? ⟨gb759, 2, none⟩ = some (.int .u32 ((wrap64 (1 + (Int.tmod t763 (wrap64 (t767 - 1))))) % 4294967296)) ∧ w'.cell? ⟨gb759, 3, none⟩ = some (.int .i64 0)) (ds := [11]) #[false, false, false, false, false, false, false, false, false, false, false, false] (by kernel_rfl) rfl rfl ⟨(blk_cell BK759.out 0).trans rfl, (blk_cell BK759.out 1).trans rfl, (blk_cell BK759.out 2).trans rfl, (blk_cell BK759.out 3).trans rfl⟩ (fun hHeld => ?_); refine with_tabW spec_l01Cur_ctl.tab7 spec_l01Cur_ctl.bits7 (fun HT_ HW_ => ?_)
          generalize w26.drew = w32 at BK755 BK759 HI0 HK HB hHeld ⊢
          refine pure_ (i := 0) (N := some 27) (v := ?_) (a' := ?_) #[true, false, false, false, false, false, false, false, false, false, false, false] rfl rfl (any_of HT_.out (by kernel_rfl)) (fun _ _ _ h => h) (Or.inl ⟨by rfl, ?_⟩) ?_ ?_
          rotate_left
          · intro w'
            go_simp
            with_reducible rfl
          rotate_left
          · simp only [Act.put, List.setIfInBounds_toArray, List.set_cons_zero, List.set_cons_succ, i64_w, i32_w]
            rfl
          refine pure_ (i := 2) (N := some 29) (v := ?_) (a' := ?_) #[true, false, true, false, false, false, false, false, false, false, false, false] rfl rfl (any_of HT_.out (by kernel_rfl)) (fun _ _ _ h => h) (Or.inl ⟨by rfl, ?_⟩) ?_ ?_
          rotate_left
          · intro w'
            go_simp
            with_reducible rfl
          rotate_left
          · simp only [Act.put, List.setIfInBounds_toArray, List.set_cons_zero, List.set_cons_succ, i64_w, i32_w]
            rfl
          refine take_ (i := 3) (N := some 30) (v := ?_) (a' := ?_) #[true, false, true, true, false, false, false, false, false, false, false, false] rfl rfl (take_ofW HT_.out HW_.out (by kernel_rfl)) (fun _ _ _ h => h) (Or.inl ⟨by rfl, ?_⟩) hHeld ?_ ?_
          rotate_left
          · rintro w' ⟨s0, s1, s2, s3⟩
            go_simp
            with_reducible rfl
          rotate_left
          · simp only [Act.put, List.setIfInBounds_toArray, List.set_cons_zero, List.set_cons_succ, i64_w, i32_w]
            rfl
          refine one_ (i := 1) (N := some 28) #[true, true, true, true, false, false, false, false, false, false, false, false] rfl rfl (one_of HT_.out (by kernel_rfl)) (by decide) (fun K hK => ?_)
          refine goes_ Try.func156 (by kernel_rfl) rfl #[.pointer (some ⟨g, 0, none⟩), .int .i64 65535] (by rfl) rfl rfl (by (try simp only [List.map_toArray, List.map_cons, List.map_nil]); first | done | rfl | (simp only [List.length_drop, List.length_take]; rfl)) ?_
          with_reducible refine (spec_l01Cur_wide.calls g s0_0 t769 t770 65535 t771 t772 t773 w0 _ ?side1 ?side2 A28.out).mono ?_
          (case side1 => repeat (first | (with_reducible first | exact HI0.out | apply IsS153.alloc | apply IsS153.drewN | apply IsS153.drew | apply IsS153.set_1 | apply IsS153.set_2 | refine IsS153.far ?_ NB0_755.out _ | refine IsS153.far ?_ NB0_759.out _) | exact HI0.out))
          (case side2 => repeat (first | (with_reducible first | exact HB.out | apply below_alloc | apply pw_below_drewN | apply below_drew1 | refine below_set ?_ (IsS153.ge HI0.out) | refine below_set ?_ GE755.out | refine below_set ?_ GE759.out) | exact HB.out))
          rintro e w33 ⟨rfl, hi, hb, hk⟩
          refine ⟨_, rfl, ?_⟩
          have n0_ := Aside0.mk (KeepBut.blk hk (g' := gb755) (o := .cells #[.int .i64 0, .int .i64 0, .int .u32 0, .int .i64 0] 78 (0, 0)) (by (with_reducible repeat (first | refine blk_drewN ?_ _ | refine blk_drew ?_ | refine blk_alloc ?_ _)); exact BK755.out) NB755_0.out (by simp))
          have n1_ := Aside0.mk (KeepBut.blk hk (g' := gb759) (o := .cells #[.int .i64 t756, .int .i64 t760, .int .u32 ((wrap64 (1 + (Int.tmod t763 (wrap64 (t767 - 1))))) % 4294967296), .int .i64 0] 78 (0, 0)) (by (with_reducible repeat (first | refine blk_drewN ?_ _ | refine blk_drew ?_ | refine blk_alloc ?_ _)); exact BK759.out) NB759_0.out (by simp))
          have n2_ := Aside0.mk (KeepBut.trans (by repeat (first | (with_reducible first | exact HK.out | apply KeepBut.set_ | apply keep_drewN | apply keep_drew | apply keep_alloc | refine keep_far ?_ GW755.out _ | refine keep_far ?_ GW759.out _) | exact HK.out)) hk (.inl rfl))
          have n3_ := Aside0.mk (hb)
          have n4_ := Aside0.mk (hi)
          clear BK755
          clear BK759
          clear HK
          clear HB
          clear HI0
          have BK755 := n0_
          have BK759 := n1_
          have HK := n2_
          have HB := n3_
          have HI0 := n4_
          clear n0_ n1_ n2_ n3_ n4_
          (try clear hb)
          (try clear hb2)
          (try clear hk)
          (try clear hi)
          refine hK.out _ _ ⟨(blk_cell BK759.out 0).trans rfl, (blk_cell BK759.out 1).trans rfl, (blk_cell BK759.out 2).trans rfl, (blk_cell BK759.out 3).trans rfl⟩ (fun hHeld => ?_)
          clear hK K
          refine norm_ (a' := ?_) ?_ ?_
          rotate_left
          · show Act.put _ (some 28) _ = _
            simp only [Act.put, List.setIfInBounds_toArray, List.set_cons_zero, List.set_cons_succ, i64_w, i32_w]
            rfl
          refine one_ (i := 4) (N := some 31) #[true, true, true, true, true, false, false, false, false, false, false, false] rfl rfl (one_of HT_.out (by kernel_rfl)) (by decide) (fun K hK => ?_)
          refine goes_ Try.func87 (by kernel_rfl) rfl #[.int .i64 t760] (by rfl) rfl rfl (by (try simp only [List.map_toArray, List.map_cons, List.map_nil]); first | done | rfl | (simp only [List.length_drop, List.length_take]; rfl)) ?_
          with_reducible refine (spec_PerPage.calls k t760 t774 _ A29.out).mono ?_
          rintro e w' ⟨rfl, ⟨nd, rfl⟩⟩
          refine ⟨_, rfl, ?_⟩
          refine hK.out _ _ ⟨(blk_cell BK759.out 0).trans rfl, (blk_cell BK759.out 1).trans rfl, (blk_cell BK759.out 2).trans rfl, (blk_cell BK759.out 3).trans rfl⟩ (fun hHeld => ?_)
          clear hK K
          refine norm_ (a' := ?_) ?_ ?_
          rotate_left
          · show Act.put _ (some 31) _ = _
            simp only [Act.put, List.setIfInBounds_toArray, List.set_cons_zero, List.set_cons_succ, i64_w, i32_w]
            rfl
          refine one_ (i := 5) (N := some 32) #[true, true, true, true, true, true, false, false, false, false, false, false] rfl rfl (one_of HT_.out (by kernel_rfl)) (by decide) (fun K hK => ?_)
          refine goes_ Try.func136 (by kernel_rfl) rfl #[.int .i64 t774] (by rfl) rfl rfl (by (try simp only [List.map_toArray, List.map_cons, List.map_nil]); first | done | rfl | (simp only [List.length_drop, List.length_take]; rfl)) ?_
          with_reducible refine (spec_l04Pow.calls k t774 t775 _ A30.out).mono ?_
          rintro e w' ⟨rfl, ⟨nd, rfl⟩⟩
          refine ⟨_, rfl, ?_⟩
          refine hK.out _ _ ⟨(blk_cell BK759.out 0).trans rfl, (blk_cell BK759.out 1).trans rfl, (blk_cell BK759.out 2).trans rfl, (blk_cell BK759.out 3).trans rfl⟩ (fun hHeld => ?_)
          clear hK K
          refine norm_ (a' := ?_) ?_ ?_
          rotate_left
          · show Act.put _ (some 32) _ = _
            simp only [Act.put, List.setIfInBounds_toArray, List.set_cons_zero, List.set_cons_succ, i64_w, i32_w]
            rfl
          refine pure_ (i := 6) (N := some 33) (v := ?_) (a' := ?_) #[true, true, true, true, true, true, true, false, false, false, false, false] rfl rfl (any_of HT_.out (by kernel_rfl)) (fun _ _ _ h => h) (Or.inl ⟨by rfl, ?_⟩) ?_ ?_
          rotate_left
          · intro w'
            go_simp
            with_reducible rfl
          rotate_left
          · simp only [Act.put, List.setIfInBounds_toArray, List.set_cons_zero, List.set_cons_succ, i64_w, i32_w]
            rfl
          refine pure_ (i := 7) (N := some 34) (v := ?_) (a' := ?_) #[true, true, true, true, true, true, true, true, false, false, false, false] rfl rfl (any_of HT_.out (by kernel_rfl)) (fun _ _ _ h => h) (Or.inl ⟨by rfl, ?_⟩) ?_ ?_
          rotate_left
          · intro w'
            go_simp
            with_reducible rfl
          rotate_left
          · simp only [Act.put, List.setIfInBounds_toArray, List.set_cons_zero, List.set_cons_succ, i64_w, i32_w]
            rfl
          refine pure_ (i := 8) (N := some 35) (v := ?_) (a' := ?_) #[true, true, true, true, true, true, true, true, true, false, false, false] rfl rfl (any_of HT_.out (by kernel_rfl)) (fun _ _ _ h => h) (Or.inl ⟨by rfl, ?_⟩) ?_ ?_
          rotate_left
          · intro w'
            go_simp
            with_reducible rfl
          rotate_left
          · simp only [Act.put, List.setIfInBounds_toArray, List.set_cons_zero, List.set_cons_succ, i64_w, i32_w]
            rfl
          refine pure_ (i := 9) (N := some 36) (v := ?_) (a' := ?_) #[true, true, true, true, true, true, true, true, true, true, false, false] rfl rfl (any_of HT_.out (by kernel_rfl)) (fun _ _ _ h => h) (Or.inl ⟨by rfl, ?_⟩) ?_ ?_
          rotate_left
          · intro w'
            go_simp
            with_reducible rfl
          rotate_left
          · simp only [Act.put, List.setIfInBounds_toArray, List.set_cons_zero, List.set_cons_succ, i64_w, i32_w]
            rfl
          refine pure_ (i := 10) (N := some 37) (v := ?_) (a' := ?_) #[true, true, true, true, true, true, true, true, true, true, true, false] rfl rfl (any_of HT_.out (by kernel_rfl)) (fun _ _ _ h => h) (Or.inl ⟨by rfl, ?_⟩) ?_ ?_
          rotate_left
          · intro w'
            go_simp
            with_reducible rfl
          rotate_left
          · simp only [Act.put, List.setIfInBounds_toArray, List.set_cons_zero, List.set_cons_succ, i64_w, i32_w]
            rfl
          refine last_ (i := 11) (N := none) #[true, true, true, true, true, true, true, true, true, true, true, true] rfl rfl (one_of HT_.out (by kernel_rfl)) (by decide) (fun K hK => ?_)
          have hs34 : w33.cell? ⟨gb759, 2, none⟩ = some (.int .u32 ((wrap64 (1 + (Int.tmod t763 (wrap64 (t767 - 1))))) % 4294967296)) := (blk_cell BK759.out 2).trans rfl
          have hfs34 := blk_frozen BK759.out 2
          have hns34_0 := NB755_759.out
          have hms34_0 := NB759_755.out
          refine skip_ (w1 := ?_) (by rfl) rfl ?_ ?_
          rotate_left
          · go_simp
            rfl
          refine hK.out _ _ ?_
          clear hK K
          refine done_ (done_of HT_.out (by kernel_rfl)) ?_
          have hnb35 := NB759_755.out
          have hnc35 := NB755_759.out
          have hnb36 := NB759_0.out
          have hnc36 := NB0_759.out
          have hcz37_0 : w33.cell? ⟨gb759, 0, none⟩ = some (.int .i64 t756) := (blk_cell BK759.out 0).trans rfl
          have hcz37_1 : w33.cell? ⟨gb759, 1, none⟩ = some (.int .i64 t760) := (blk_cell BK759.out 1).trans rfl
          have hcz37_2 : w33.cell? ⟨gb759, 2, none⟩ = some (.int .u32 ((wrap64 (1 + (Int.tmod t763 (wrap64 (t767 - 1))))) % 4294967296)) := (blk_cell BK759.out 2).trans rfl
          have hcz37_3 : w33.cell? ⟨gb759, 3, none⟩ = some (.int .i64 0) := (blk_cell BK759.out 3).trans rfl
          have hfz37_0 := blk_frozen BK759.out 0
          have hfz37_1 := blk_frozen BK759.out 1
          have hfz37_2 := blk_frozen BK759.out 2
          have hfz37_3 := blk_frozen BK759.out 3
          have hnb38 := NB755_0.out
          have hnc38 := NB0_755.out
          have hcz39_0 : w33.cell? ⟨gb755, 0, none⟩ = some (.int .i64 0) := (blk_cell BK755.out 0).trans rfl
          have hcz39_1 : w33.cell? ⟨gb755, 1, none⟩ = some (.int .i64 0) := (blk_cell BK755.out 1).trans rfl
          have hcz39_2 : w33.cell? ⟨gb755, 2, none⟩ = some (.int .u32 0) := (blk_cell BK755.out 2).trans rfl
          have hcz39_3 : w33.cell? ⟨gb755, 3, none⟩ = some (.int .i64 0) := (blk_cell BK755.out 3).trans rfl
          have hfz39_0 := blk_frozen BK755.out 0
          have hfz39_1 := blk_frozen BK755.out 1
          have hfz39_2 := blk_frozen BK755.out 2
          have hfz39_3 := blk_frozen BK755.out 3
          try go_wp2
          refine bodyPost_ret (results_cell_row rfl _ _ gb755 78 #[.int .i64 t756, .int .i64 t760, .int .u32 ((wrap64 (1 + (Int.tmod t771 (wrap64 (t775 - 1))))) % 4294967296), .int .i64 0] (0, 0) _ rfl (by (with_reducible repeat (first | refine blk_drewN ?_ _ | refine blk_drew ?_ | refine blk_alloc ?_ _)); refine blk_put (cs := #[.int .i64 t756, .int .i64 t760, .int .u32 ((wrap64 (1 + (Int.tmod t771 (wrap64 (t775 - 1))))) % 4294967296), .int .i64 0]) ?_ 3 _ rfl; (with_reducible repeat (first | refine blk_drewN ?_ _ | refine blk_drew ?_ | refine blk_alloc ?_ _)); refine blk_put (cs := #[.int .i64 t756, .int .i64 t760, .int .u32 0, .int .i64 0]) ?_ 2 _ rfl; (with_reducible repeat (first | refine blk_drewN ?_ _ | refine blk_drew ?_ | refine blk_alloc ?_ _)); refine blk_put (cs := #[.int .i64 t756, .int .i64 0, .int .u32 0, .int .i64 0]) ?_ 1 _ rfl; (with_reducible repeat (first | refine blk_drewN ?_ _ | refine blk_drew ?_ | refine blk_alloc ?_ _)); refine blk_put (cs := #[.int .i64 0, .int .i64 0, .int .u32 0, .int .i64 0]) ?_ 0 _ rfl; (with_reducible repeat (first | refine blk_drewN ?_ _ | refine blk_drew ?_ | refine blk_alloc ?_ _)); refine blk_far ?_ NB755_759.out _; (with_reducible repeat (first | refine blk_drewN ?_ _ | refine blk_drew ?_ | refine blk_alloc ?_ _)); exact BK755.out) Try.underlying78 rfl (by kernel_rfl)) rfl ?_
          exact ⟨by first | rfl | (simp only [i64_w, i32_w] <;> rfl) | (simp [errW_none, errW_some] <;> rfl) | (simp [*, errW_none, errW_some] <;> rfl), by repeat (first | (with_reducible first | exact HI0.out | apply IsS153.alloc | apply IsS153.drewN | apply IsS153.drew | apply IsS153.set_1 | apply IsS153.set_2 | refine IsS153.far ?_ NB0_755.out _ | refine IsS153.far ?_ NB0_759.out _) | exact HI0.out), by repeat (first | (with_reducible first | exact HB.out | apply below_alloc | apply pw_below_drewN | apply below_drew1 | refine below_set ?_ (IsS153.ge HI0.out) | refine below_set ?_ GE755.out | refine below_set ?_ GE759.out) | exact HB.out), by repeat (first | (with_reducible first | exact HK.out | apply KeepBut.set_ | apply keep_drewN | apply keep_drew | apply keep_alloc | refine keep_far ?_ GW755.out _ | refine keep_far ?_ GW759.out _) | exact HK.out)⟩
      · replace c27 := Bool.eq_false_iff.mpr c27
        subst c27
        (try simp only [Bool.not_true, Bool.not_false])
        rw [if_neg (show ¬ (false = true) by decide)] at H
        simp only [Option.some.injEq, Prod.mk.injEq] at H
        obtain ⟨rfl, rfl, rfl, rfl, rfl, rfl⟩ := H
        have hnb40 := NB759_755.out
        have hnc40 := NB755_759.out
        have hnb41 := NB759_0.out
        have hnc41 := NB0_759.out
        have hcz42_0 : w26.cell? ⟨gb759, 0, none⟩ = some (.int .i64 t756) := (blk_cell BK759.out 0).trans rfl
        have hcz42_1 : w26.cell? ⟨gb759, 1, none⟩ = some (.int .i64 t760) := (blk_cell BK759.out 1).trans rfl
        have hcz42_2 : w26.cell? ⟨gb759, 2, none⟩ = some (.int .u32 ((wrap64 (1 + (Int.tmod t763 (wrap64 (t767 - 1))))) % 4294967296)) := (blk_cell BK759.out 2).trans rfl
        have hcz42_3 : w26.cell? ⟨gb759, 3, none⟩ = some (.int .i64 0) := (blk_cell BK759.out 3).trans rfl
        have hfz42_0 := blk_frozen BK759.out 0
        have hfz42_1 := blk_frozen BK759.out 1
        have hfz42_2 := blk_frozen BK759.out 2
        have hfz42_3 := blk_frozen BK759.out 3
        have hnb43 := NB755_0.out
        have hnc43 := NB0_755.out
        have hcz44_0 : w26.cell? ⟨gb755, 0, none⟩ = some (.int .i64 0) := (blk_cell BK755.out 0).trans rfl
        have hcz44_1 : w26.cell? ⟨gb755, 1, none⟩ = some (.int .i64 0) := (blk_cell BK755.out 1).trans rfl
        have hcz44_2 : w26.cell? ⟨gb755, 2, none⟩ = some (.int .u32 0) := (blk_cell BK755.out 2).trans rfl
        have hcz44_3 : w26.cell? ⟨gb755, 3, none⟩ = some (.int .i64 0) := (blk_cell BK755.out 3).trans rfl
        have hfz44_0 := blk_frozen BK755.out 0
        have hfz44_1 := blk_frozen BK755.out 1
        have hfz44_2 := blk_frozen BK755.out 2
        have hfz44_3 := blk_frozen BK755.out 3
        go_wp2
        refine bodyPost_ret (results_cell_row rfl _ _ gb755 78 #[.int .i64 t756, .int .i64 t760, .int .u32 ((wrap64 (1 + (Int.tmod t763 (wrap64 (t767 - 1))))) % 4294967296), .int .i64 0] (0, 0) _ rfl (by (with_reducible repeat (first | refine blk_drewN ?_ _ | refine blk_drew ?_ | refine blk_alloc ?_ _)); refine blk_put (cs := #[.int .i64 t756, .int .i64 t760, .int .u32 ((wrap64 (1 + (Int.tmod t763 (wrap64 (t767 - 1))))) % 4294967296), .int .i64 0]) ?_ 3 _ rfl; (with_reducible repeat (first | refine blk_drewN ?_ _ | refine blk_drew ?_ | refine blk_alloc ?_ _)); refine blk_put (cs := #[.int .i64 t756, .int .i64 t760, .int .u32 0, .int .i64 0]) ?_ 2 _ rfl; (with_reducible repeat (first | refine blk_drewN ?_ _ | refine blk_drew ?_ | refine blk_alloc ?_ _)); refine blk_put (cs := #[.int .i64 t756, .int .i64 0, .int .u32 0, .int .i64 0]) ?_ 1 _ rfl; (with_reducible repeat (first | refine blk_drewN ?_ _ | refine blk_drew ?_ | refine blk_alloc ?_ _)); refine blk_put (cs := #[.int .i64 0, .int .i64 0, .int .u32 0, .int .i64 0]) ?_ 0 _ rfl; (with_reducible repeat (first | refine blk_drewN ?_ _ | refine blk_drew ?_ | refine blk_alloc ?_ _)); exact BK755.out) Try.underlying78 rfl (by kernel_rfl)) rfl ?_
        exact ⟨by first | rfl | (simp only [i64_w, i32_w] <;> rfl) | (simp [errW_none, errW_some] <;> rfl) | (simp [*, errW_none, errW_some] <;> rfl), by repeat (first | (with_reducible first | exact HI0.out | apply IsS153.alloc | apply IsS153.drewN | apply IsS153.drew | apply IsS153.set_1 | apply IsS153.set_2 | refine IsS153.far ?_ NB0_755.out _ | refine IsS153.far ?_ NB0_759.out _) | exact HI0.out), by repeat (first | (with_reducible first | exact HB.out | apply below_alloc | apply pw_below_drewN | apply below_drew1 | refine below_set ?_ (IsS153.ge HI0.out) | refine below_set ?_ GE755.out | refine below_set ?_ GE759.out) | exact HB.out), by repeat (first | (with_reducible first | exact HK.out | apply KeepBut.set_ | apply keep_drewN | apply keep_drew | apply keep_alloc | refine keep_far ?_ GW755.out _ | refine keep_far ?_ GW759.out _) | exact HK.out)⟩
  · rw [if_neg c10] at H
    have c10b0 : (t756 == 1) = false := beq_eq_false_iff_ne.mpr c10
    have c10b1 : (t756 != 1) = true := bne_iff_ne.mpr c10
    (first | rw [c10b0] | (simp only [i64_w, i32_w]; rw [c10b0]) | (simp only [c10b2, Bool.not_true, Bool.not_false]) | (simp only [c10b1, Bool.not_true, Bool.not_false]) | skip)
    by_cases c45 : t756 = 2
    · rw [if_pos c45] at H
      have c45b0 : (t756 == 2) = true := beq_iff_eq.mpr c45
      have c45b1 : (t756 != 2) = false := bne_eq_false_iff_eq.mpr c45
      clear c45
      replace H := Option.bind_eq_some_iff.mp H
      obtain ⟨⟨t776, t777, t778⟩, A460, H⟩ := H
      try dsimp only at H
      have A46 := Aside0.mk A460
      clear A460
      simp only [Option.some.injEq, Prod.mk.injEq] at H
      obtain ⟨rfl, rfl, rfl, rfl, rfl, rfl⟩ := H
      go_wp2_with (first | ((with_reducible refine gate_callee (f := 113) rfl ?_); refine goesL_ (some 41) rfl rfl Try.func113 (by kernel_rfl) rfl #[.pointer (some ⟨g, 0, none⟩), .int .i64 4] rfl (by (try simp only [List.map_toArray, List.map_cons, List.map_nil]); first | done | rfl | (simp only [List.length_drop, List.length_take]; rfl)) ?_; (with_reducible refine (spec_l01Cur_pick.calls g s0_0 t757 t758 4 t776 t777 t778 w0 _ ?side1 ?side2 A46.out).mono ?_); (case side1 => repeat (first | (with_reducible first | exact HI0.out | apply IsS153.alloc | apply IsS153.drewN | apply IsS153.drew | apply IsS153.set_1 | apply IsS153.set_2 | refine IsS153.far ?_ NB0_755.out _ | refine IsS153.far ?_ NB0_759.out _) | exact HI0.out)); (case side2 => repeat (first | (with_reducible first | exact HB.out | apply below_alloc | apply pw_below_drewN | apply below_drew1 | refine below_set ?_ (IsS153.ge HI0.out) | refine below_set ?_ GE755.out | refine below_set ?_ GE759.out) | exact HB.out)); rintro e w47 ⟨rfl, hi, hb, hk⟩; refine ⟨_, rfl, ?_⟩; have n0_ := Aside0.mk (KeepBut.blk hk (g' := gb755) (o := .cells #[.int .i64 0, .int .i64 0, .int .u32 0, .int .i64 0] 78 (0, 0)) (by (with_reducible repeat (first | refine blk_drewN ?_ _ | refine blk_drew ?_ | refine blk_alloc ?_ _)); refine blk_far ?_ NB755_759.out _; (with_reducible repeat (first | refine blk_drewN ?_ _ | refine blk_drew ?_ | refine blk_alloc ?_ _)); refine blk_far ?_ NB755_759.out _; (with_reducible repeat (first | refine blk_drewN ?_ _ | refine blk_drew ?_ | refine blk_alloc ?_ _)); refine blk_far ?_ NB755_759.out _; (with_reducible repeat (first | refine blk_drewN ?_ _ | refine blk_drew ?_ | refine blk_alloc ?_ _)); refine blk_far ?_ NB755_759.out _; (with_reducible repeat (first | refine blk_drewN ?_ _ | refine blk_drew ?_ | refine blk_alloc ?_ _)); exact BK755.out) NB755_0.out (by simp)); have n1_ := Aside0.mk (KeepBut.blk hk (g' := gb759) (o := .cells #[.int .i64 t756, .int .i64 0, .int .u32 0, .int .i64 0] 78 (0, 0)) (by (with_reducible repeat (first | refine blk_drewN ?_ _ | refine blk_drew ?_ | refine blk_alloc ?_ _)); refine blk_put (cs := #[.int .i64 t756, .int .i64 0, .int .u32 0, .int .i64 0]) ?_ 3 _ rfl; (with_reducible repeat (first | refine blk_drewN ?_ _ | refine blk_drew ?_ | refine blk_alloc ?_ _)); refine blk_put (cs := #[.int .i64 t756, .int .i64 0, .int .u32 0, .int .i64 0]) ?_ 2 _ rfl; (with_reducible repeat (first | refine blk_drewN ?_ _ | refine blk_drew ?_ | refine blk_alloc ?_ _)); refine blk_put (cs := #[.int .i64 t756, .int .i64 0, .int .u32 0, .int .i64 0]) ?_ 1 _ rfl; (with_reducible repeat (first | refine blk_drewN ?_ _ | refine blk_drew ?_ | refine blk_alloc ?_ _)); refine blk_put (cs := #[.int .i64 0, .int .i64 0, .int .u32 0, .int .i64 0]) ?_ 0 _ rfl; (with_reducible repeat (first | refine blk_drewN ?_ _ | refine blk_drew ?_ | refine blk_alloc ?_ _)); exact BK759.out) NB759_0.out (by simp)); have n2_ := Aside0.mk (KeepBut.trans (by repeat (first | (with_reducible first | exact HK.out | apply KeepBut.set_ | apply keep_drewN | apply keep_drew | apply keep_alloc | refine keep_far ?_ GW755.out _ | refine keep_far ?_ GW759.out _) | exact HK.out)) hk (.inl rfl)); have n3_ := Aside0.mk (hb); have n4_ := Aside0.mk (hi); clear BK755; clear BK759; clear HK; clear HB; clear HI0; have BK755 := n0_; have BK759 := n1_; have HK := n2_; have HB := n3_; have HI0 := n4_; clear n0_ n1_ n2_ n3_ n4_; (try clear hb); (try clear hb2); (try clear hk); (try clear hi); have hnb48 := NB759_755.out; have hnc48 := NB755_759.out; have hnb49 := NB759_0.out; have hnc49 := NB0_759.out; have hcz50_0 : w47.cell? ⟨gb759, 0, none⟩ = some (.int .i64 t756) := (blk_cell BK759.out 0).trans rfl; have hcz50_1 : w47.cell? ⟨gb759, 1, none⟩ = some (.int .i64 0) := (blk_cell BK759.out 1).trans rfl; have hcz50_2 : w47.cell? ⟨gb759, 2, none⟩ = some (.int .u32 0) := (blk_cell BK759.out 2).trans rfl; have hcz50_3 : w47.cell? ⟨gb759, 3, none⟩ = some (.int .i64 0) := (blk_cell BK759.out 3).trans rfl; have hfz50_0 := blk_frozen BK759.out 0; have hfz50_1 := blk_frozen BK759.out 1; have hfz50_2 := blk_frozen BK759.out 2; have hfz50_3 := blk_frozen BK759.out 3; have hnb51 := NB755_0.out; have hnc51 := NB0_755.out; have hcz52_0 : w47.cell? ⟨gb755, 0, none⟩ = some (.int .i64 0) := (blk_cell BK755.out 0).trans rfl; have hcz52_1 : w47.cell? ⟨gb755, 1, none⟩ = some (.int .i64 0) := (blk_cell BK755.out 1).trans rfl; have hcz52_2 : w47.cell? ⟨gb755, 2, none⟩ = some (.int .u32 0) := (blk_cell BK755.out 2).trans rfl; have hcz52_3 : w47.cell? ⟨gb755, 3, none⟩ = some (.int .i64 0) := (blk_cell BK755.out 3).trans rfl; have hfz52_0 := blk_frozen BK755.out 0; have hfz52_1 := blk_frozen BK755.out 1; have hfz52_2 := blk_frozen BK755.out 2; have hfz52_3 := blk_frozen BK755.out 3))
      refine bodyPost_ret (results_cell_row rfl _ _ gb755 78 #[.int .i64 t756, .int .i64 0, .int .u32 0, .int .i64 (wrap64 (2 + t776))] (0, 0) _ rfl (by (with_reducible repeat (first | refine blk_drewN ?_ _ | refine blk_drew ?_ | refine blk_alloc ?_ _)); refine blk_put (cs := #[.int .i64 t756, .int .i64 0, .int .u32 0, .int .i64 0]) ?_ 3 _ rfl; (with_reducible repeat (first | refine blk_drewN ?_ _ | refine blk_drew ?_ | refine blk_alloc ?_ _)); refine blk_put (cs := #[.int .i64 t756, .int .i64 0, .int .u32 0, .int .i64 0]) ?_ 2 _ rfl; (with_reducible repeat (first | refine blk_drewN ?_ _ | refine blk_drew ?_ | refine blk_alloc ?_ _)); refine blk_put (cs := #[.int .i64 t756, .int .i64 0, .int .u32 0, .int .i64 0]) ?_ 1 _ rfl; (with_reducible repeat (first | refine blk_drewN ?_ _ | refine blk_drew ?_ | refine blk_alloc ?_ _)); refine blk_put (cs := #[.int .i64 0, .int .i64 0, .int .u32 0, .int .i64 0]) ?_ 0 _ rfl; (with_reducible repeat (first | refine blk_drewN ?_ _ | refine blk_drew ?_ | refine blk_alloc ?_ _)); refine blk_far ?_ NB755_759.out _; (with_reducible repeat (first | refine blk_drewN ?_ _ | refine blk_drew ?_ | refine blk_alloc ?_ _)); exact BK755.out) Try.underlying78 rfl (by kernel_rfl)) rfl ?_
      exact ⟨by first | rfl | (simp only [i64_w, i32_w] <;> rfl) | (simp [errW_none, errW_some] <;> rfl) | (simp [*, errW_none, errW_some] <;> rfl), by repeat (first | (with_reducible first | exact HI0.out | apply IsS153.alloc | apply IsS153.drewN | apply IsS153.drew | apply IsS153.set_1 | apply IsS153.set_2 | refine IsS153.far ?_ NB0_755.out _ | refine IsS153.far ?_ NB0_759.out _) | exact HI0.out), by repeat (first | (with_reducible first | exact HB.out | apply below_alloc | apply pw_below_drewN | apply below_drew1 | refine below_set ?_ (IsS153.ge HI0.out) | refine below_set ?_ GE755.out | refine below_set ?_ GE759.out) | exact HB.out), by repeat (first | (with_reducible first | exact HK.out | apply KeepBut.set_ | apply keep_drewN | apply keep_drew | apply keep_alloc | refine keep_far ?_ GW755.out _ | refine keep_far ?_ GW759.out _) | exact HK.out)⟩
    · rw [if_neg c45] at H
      have c45b0 : (t756 == 2) = false := beq_eq_false_iff_ne.mpr c45
      have c45b1 : (t756 != 2) = true := bne_iff_ne.mpr c45
      simp only [Option.some.injEq, Prod.mk.injEq] at H
      obtain ⟨rfl, rfl, rfl, rfl, rfl, rfl⟩ := H
      have hnb53 := NB759_755.out
      have hnc53 := NB755_759.out
      have hnb54 := NB759_0.out
      have hnc54 := NB0_759.out
      have hcz55_0 : w6.cell? ⟨gb759, 0, none⟩ = some (.int .i64 0) := (blk_cell BK759.out 0).trans rfl
      have hcz55_1 : w6.cell? ⟨gb759, 1, none⟩ = some (.int .i64 0) := (blk_cell BK759.out 1).trans rfl
      have hcz55_2 : w6.cell? ⟨gb759, 2, none⟩ = some (.int .u32 0) := (blk_cell BK759.out 2).trans rfl
      have hcz55_3 : w6.cell? ⟨gb759, 3, none⟩ = some (.int .i64 0) := (blk_cell BK759.out 3).trans rfl
      have hfz55_0 := blk_frozen BK759.out 0
      have hfz55_1 := blk_frozen BK759.out 1
      have hfz55_2 := blk_frozen BK759.out 2
      have hfz55_3 := blk_frozen BK759.out 3
      have hnb56 := NB755_0.out
      have hnc56 := NB0_755.out
      have hcz57_0 : w6.cell? ⟨gb755, 0, none⟩ = some (.int .i64 0) := (blk_cell BK755.out 0).trans rfl
      have hcz57_1 : w6.cell? ⟨gb755, 1, none⟩ = some (.int .i64 0) := (blk_cell BK755.out 1).trans rfl
      have hcz57_2 : w6.cell? ⟨gb755, 2, none⟩ = some (.int .u32 0) := (blk_cell BK755.out 2).trans rfl
      have hcz57_3 : w6.cell? ⟨gb755, 3, none⟩ = some (.int .i64 0) := (blk_cell BK755.out 3).trans rfl
      have hfz57_0 := blk_frozen BK755.out 0
      have hfz57_1 := blk_frozen BK755.out 1
      have hfz57_2 := blk_frozen BK755.out 2
      have hfz57_3 := blk_frozen BK755.out 3
      go_wp2
      refine bodyPost_ret (results_cell_row rfl _ _ gb755 78 #[.int .i64 t756, .int .i64 0, .int .u32 0, .int .i64 0] (0, 0) _ rfl (by (with_reducible repeat (first | refine blk_drewN ?_ _ | refine blk_drew ?_ | refine blk_alloc ?_ _)); refine blk_put (cs := #[.int .i64 t756, .int .i64 0, .int .u32 0, .int .i64 0]) ?_ 3 _ rfl; (with_reducible repeat (first | refine blk_drewN ?_ _ | refine blk_drew ?_ | refine blk_alloc ?_ _)); refine blk_put (cs := #[.int .i64 t756, .int .i64 0, .int .u32 0, .int .i64 0]) ?_ 2 _ rfl; (with_reducible repeat (first | refine blk_drewN ?_ _ | refine blk_drew ?_ | refine blk_alloc ?_ _)); refine blk_put (cs := #[.int .i64 t756, .int .i64 0, .int .u32 0, .int .i64 0]) ?_ 1 _ rfl; (with_reducible repeat (first | refine blk_drewN ?_ _ | refine blk_drew ?_ | refine blk_alloc ?_ _)); refine blk_put (cs := #[.int .i64 0, .int .i64 0, .int .u32 0, .int .i64 0]) ?_ 0 _ rfl; (with_reducible repeat (first | refine blk_drewN ?_ _ | refine blk_drew ?_ | refine blk_alloc ?_ _)); refine blk_far ?_ NB755_759.out _; (with_reducible repeat (first | refine blk_drewN ?_ _ | refine blk_drew ?_ | refine blk_alloc ?_ _)); refine blk_far ?_ NB755_759.out _; (with_reducible repeat (first | refine blk_drewN ?_ _ | refine blk_drew ?_ | refine blk_alloc ?_ _)); refine blk_far ?_ NB755_759.out _; (with_reducible repeat (first | refine blk_drewN ?_ _ | refine blk_drew ?_ | refine blk_alloc ?_ _)); refine blk_far ?_ NB755_759.out _; (with_reducible repeat (first | refine blk_drewN ?_ _ | refine blk_drew ?_ | refine blk_alloc ?_ _)); exact BK755.out) Try.underlying78 rfl (by kernel_rfl)) rfl ?_
      exact ⟨by first | rfl | (simp only [i64_w, i32_w] <;> rfl) | (simp [errW_none, errW_some] <;> rfl) | (simp [*, errW_none, errW_some] <;> rfl), by repeat (first | (with_reducible first | exact HI0.out | apply IsS153.alloc | apply IsS153.drewN | apply IsS153.drew | apply IsS153.set_1 | apply IsS153.set_2 | refine IsS153.far ?_ NB0_755.out _ | refine IsS153.far ?_ NB0_759.out _) | exact HI0.out), by repeat (first | (with_reducible first | exact HB.out | apply below_alloc | apply pw_below_drewN | apply below_drew1 | refine below_set ?_ (IsS153.ge HI0.out) | refine below_set ?_ GE755.out | refine below_set ?_ GE759.out) | exact HB.out), by repeat (first | (with_reducible first | exact HK.out | apply KeepBut.set_ | apply keep_drewN | apply keep_drew | apply keep_alloc | refine keep_far ?_ GW755.out _ | refine keep_far ?_ GW759.out _) | exact HK.out)⟩

/-! ### spec_l01Cur_word: function 144 -/
def spec_l01Cur_word.f (s0_0 : List Int) (s0_1 : Int) (s0_2 : Int) : Option (Int × Int × Int) := (spec_l01Cur_pick.f s0_0 s0_1 s0_2 256).bind fun bt779 => ((spec_l01Cur_wide.f s0_0 bt779.2.1 bt779.2.2 16777216).bind fun bt782 => ((some (([0, 1, 4294967295, 65535, (bt779.1) % 4294967296, (((bt782.1) % 4294967296) * 255) % 4294967296, 2147483648] : List Int) : List Int)).bind fun y785 => ((spec_l01Cur_pick.f s0_0 bt782.2.1 bt782.2.2 7).bind fun bt788 => (if 0 ≤ bt788.1 then (if bt788.1 < (y785.length : Int) then (some (rd y785 bt788.1, bt788.2.1, bt788.2.2)) else (none)) else (none)))))
set_option maxHeartbeats 8000000 in
set_option maxRecDepth 100000 in
theorem spec_l01Cur_word.calls (g : Nat) (s0_0 : List Int) (s0_1 : Int) (s0_2 : Int) (r1 : Int) (r2 : Int) (r3 : Int) (w0 w : World) (hI : IsS153 w0 w g s0_0 s0_1 s0_2) (hB : Below w0.heap.size w0 w) (h : spec_l01Cur_word.f s0_0 s0_1 s0_2 = some (r1, r2, r3)) :
    Calls Try.prog 144 #[.pointer (some ⟨g, 0, none⟩)] w fun e w' => e = .returned (.int .u32 r1) ∧ IsS153 w0 w' g s0_0 r2 r3 ∧ Below w0.heap.size w0 w' ∧ KeepBut w w' g none := by
  have HI0 := Aside0.mk hI
  have HK := Aside0.mk (KeepBut.refl w g none)
  have HL := Aside0.mk hB.size
  clear hI
  have HW0 := Aside0.mk hB.size
  have HB := Aside0.mk hB
  clear hB
  unfold spec_l01Cur_word.f at h
  have H := h
  clear h
  replace H := Option.bind_eq_some_iff.mp H
  obtain ⟨⟨t779, t780, t781⟩, A20, H⟩ := H
  try dsimp only at H
  have A2 := Aside0.mk A20
  clear A20
  replace H := Option.bind_eq_some_iff.mp H
  obtain ⟨⟨t782, t783, t784⟩, A30, H⟩ := H
  try dsimp only at H
  have A3 := Aside0.mk A30
  clear A30
  obtain ⟨y785, hy785⟩ : ∃ y_ : List Int, y_ = (([0, 1, 4294967295, 65535, (t779) % 4294967296, (((t782) % 4294967296) * 255) % 4294967296, 2147483648] : List Int)) := ⟨_, rfl⟩
  replace H : ((spec_l01Cur_pick.f s0_0 t783 t784 7).bind fun bt788 => (if 0 ≤ bt788.1 then (if bt788.1 < (y785.length : Int) then (some (rd y785 bt788.1, bt788.2.1, bt788.2.2)) else (none)) else (none))) = some (r1, r2, r3) := by first | (rw [hy785]; with_reducible exact H) | (have H2_ := (Option.bind_some _ _).symm.trans H; rw [hy785]; with_reducible exact H2_) | (have H2_ := (Option.bind_some _ _).symm.trans H; with_reducible exact H2_) | with_reducible exact H | (rw [hy785]; exact H) | exact H
  have Ny785 := Aside0.mk hy785
  clear hy785
  replace H := Option.bind_eq_some_iff.mp H
  obtain ⟨⟨t788, t789, t790⟩, A40, H⟩ := H
  try dsimp only at H
  have A4 := Aside0.mk A40
  clear A40
  by_cases c5 : 0 ≤ t788
  · rw [if_pos c5] at H
    have c5b0 : decide (0 ≤ t788) = true := decide_eq_true c5
    clear c5
    by_cases c6 : t788 < (y785.length : Int)
    · rw [if_pos c6] at H
      have c6b0 : decide (t788 < (y785.length : Int)) = true := decide_eq_true c6
      clear c6
      simp only [Option.some.injEq, Prod.mk.injEq] at H
      obtain ⟨rfl, rfl, rfl⟩ := H
      go_enter Try.func144, Try.ntmps144
      go_wp2_with (first | ((with_reducible refine gate_callee (f := 113) rfl ?_); refine goesL_ (some 4) rfl rfl Try.func113 (by kernel_rfl) rfl #[.pointer (some ⟨g, 0, none⟩), .int .i64 256] rfl (by (try simp only [List.map_toArray, List.map_cons, List.map_nil]); first | done | rfl | (simp only [List.length_drop, List.length_take]; rfl)) ?_; (with_reducible refine (spec_l01Cur_pick.calls g s0_0 s0_1 s0_2 256 t779 t780 t781 w0 _ ?side1 ?side2 A2.out).mono ?_); (case side1 => repeat (first | (with_reducible first | exact HI0.out | apply IsS153.alloc | apply IsS153.drewN | apply IsS153.drew | apply IsS153.set_1 | apply IsS153.set_2) | exact HI0.out)); (case side2 => repeat (first | (with_reducible first | exact HB.out | apply below_alloc | apply pw_below_drewN | apply below_drew1 | refine below_set ?_ (IsS153.ge HI0.out)) | exact HB.out)); rintro e w7 ⟨rfl, hi, hb, hk⟩; refine ⟨_, rfl, ?_⟩; have n0_ := Aside0.mk (KeepBut.trans (by repeat (first | (with_reducible first | exact HK.out | apply KeepBut.set_ | apply keep_drewN | apply keep_drew | apply keep_alloc) | exact HK.out)) hk (.inl rfl)); have n1_ := Aside0.mk (hb); have n2_ := Aside0.mk (hi); clear HK; clear HB; clear HI0; have HK := n0_; have HB := n1_; have HI0 := n2_; clear n0_ n1_ n2_; (try clear hb); (try clear hb2); (try clear hk); (try clear hi)) | ((with_reducible refine gate_callee (f := 156) rfl ?_); refine goesL_ (some 7) rfl rfl Try.func156 (by kernel_rfl) rfl #[.pointer (some ⟨g, 0, none⟩), .int .i64 16777216] rfl (by (try simp only [List.map_toArray, List.map_cons, List.map_nil]); first | done | rfl | (simp only [List.length_drop, List.length_take]; rfl)) ?_; (with_reducible refine (spec_l01Cur_wide.calls g s0_0 t780 t781 16777216 t782 t783 t784 w0 _ ?side1 ?side2 A3.out).mono ?_); (case side1 => repeat (first | (with_reducible first | exact HI0.out | apply IsS153.alloc | apply IsS153.drewN | apply IsS153.drew | apply IsS153.set_1 | apply IsS153.set_2) | exact HI0.out)); (case side2 => repeat (first | (with_reducible first | exact HB.out | apply below_alloc | apply pw_below_drewN | apply below_drew1 | refine below_set ?_ (IsS153.ge HI0.out)) | exact HB.out)); rintro e w8 ⟨rfl, hi, hb, hk⟩; refine ⟨_, rfl, ?_⟩; have n0_ := Aside0.mk (KeepBut.trans (by repeat (first | (with_reducible first | exact HK.out | apply KeepBut.set_ | apply keep_drewN | apply keep_drew | apply keep_alloc) | exact HK.out)) hk (.inl rfl)); have n1_ := Aside0.mk (hb); have n2_ := Aside0.mk (hi); clear HK; clear HB; clear HI0; have HK := n0_; have HB := n1_; have HI0 := n2_; clear n0_ n1_ n2_; (try clear hb); (try clear hb2); (try clear hk); (try clear hi)) | ((with_reducible refine gate_dst (N := 10) rfl ?_); refine Kd.R_lit (Kd.int .u32) _ 23 ?hg (N := 10) ?hd (xs := ([0, 1, 4294967295, 65535, (t779) % 4294967296, (((t782) % 4294967296) * 255) % 4294967296, 2147483648] : List Int)) (inner := [.int .u32 0, .int .u32 1, .int .u32 4294967295, .int .u32 65535, .int .u32 ((t779) % 4294967296), .int .u32 ((((t782) % 4294967296) * 255) % 4294967296), .int .u32 2147483648]) (ok := fun _ => True) (okp := fun _ => True) ?hr ?hp (fun _ hk => hk) trivial (Below.refl _ _) (Nat.le_refl _) (by simp) ?_; (case hd => rfl); (case hg => rfl); (case hr => first | (go_simp; done) | (go_simp; rfl)); (case hp => exact (Reps.one (show Kd.M (Kd.int .u32) _ _ _ 0 [.int .u32 0] from rfl) (Reps.one (show Kd.M (Kd.int .u32) _ _ _ 1 [.int .u32 1] from rfl) (Reps.one (show Kd.M (Kd.int .u32) _ _ _ 4294967295 [.int .u32 4294967295] from rfl) (Reps.one (show Kd.M (Kd.int .u32) _ _ _ 65535 [.int .u32 65535] from rfl) (Reps.one (show Kd.M (Kd.int .u32) _ _ _ ((t779) % 4294967296) [.int .u32 ((t779) % 4294967296)] from rfl) (Reps.one (show Kd.M (Kd.int .u32) _ _ _ ((((t782) % 4294967296) * 255) % 4294967296) [.int .u32 ((((t782) % 4294967296) * 255) % 4294967296)] from rfl) (Reps.one (show Kd.M (Kd.int .u32) _ _ _ 2147483648 [.int .u32 2147483648] from rfl) (Reps.none _ _))))))))); intro v786 w9 ho10 hb hg_ hnew_; clear hg_ hnew_; (first | rw [← Ny785.out] at ho10 | (simp only [Int.reduceToNat] at ho10; rw [← Ny785.out] at ho10)); have n0_ := Aside0.mk (Kd.R_lower ho10 (keep_size (w := w) (g := g) (row := none) (by repeat (first | (with_reducible first | exact HK.out | apply KeepBut.set_ | apply keep_drewN | apply keep_drew | apply keep_alloc) | exact HK.out)))); have n1_ := Aside0.mk (IsS153.below (by repeat (first | (with_reducible first | exact HI0.out | apply IsS153.alloc | apply IsS153.drewN | apply IsS153.drew | apply IsS153.set_1 | apply IsS153.set_2) | exact HI0.out)) hb); have n2_ := Aside0.mk (KeepBut.trans (by repeat (first | (with_reducible first | exact HK.out | apply KeepBut.set_ | apply keep_drewN | apply keep_drew | apply keep_alloc) | exact HK.out)) (KeepBut.of_below hb g none) (.inl rfl)); have n3_ := Aside0.mk (below_step (by repeat (first | (with_reducible first | exact HB.out | apply below_alloc | apply pw_below_drewN | apply below_drew1 | refine below_set ?_ (IsS153.ge HI0.out)) | exact HB.out)) hb); clear HI0; clear HK; clear HB; have HO787 := n0_; have HI0 := n1_; have HK := n2_; have HB := n3_; clear n0_ n1_ n2_ n3_; clear hb ho10) | ((with_reducible refine gate_callee (f := 113) rfl ?_); refine goesL_ (some 12) rfl rfl Try.func113 (by kernel_rfl) rfl #[.pointer (some ⟨g, 0, none⟩), .int .i64 7] rfl (by (try simp only [List.map_toArray, List.map_cons, List.map_nil]); first | done | rfl | (simp only [List.length_drop, List.length_take]; rfl)) ?_; (with_reducible refine (spec_l01Cur_pick.calls g s0_0 t783 t784 7 t788 t789 t790 w0 _ ?side1 ?side2 A4.out).mono ?_); (case side1 => repeat (first | (with_reducible first | exact HI0.out | apply IsS153.alloc | apply IsS153.drewN | apply IsS153.drew | apply IsS153.set_1 | apply IsS153.set_2) | exact HI0.out)); (case side2 => repeat (first | (with_reducible first | exact HB.out | apply below_alloc | apply pw_below_drewN | apply below_drew1 | refine below_set ?_ (IsS153.ge HI0.out)) | exact HB.out)); rintro e w11 ⟨rfl, hi, hb, hk⟩; refine ⟨_, rfl, ?_⟩; have n0_ := Aside0.mk (Kd.R_mono (Kd.R_keep (IsS153.apart (show IsS153 w0 _ g s0_0 t783 t784 from by repeat (first | (with_reducible first | exact HI0.out | apply IsS153.alloc | apply IsS153.drewN | apply IsS153.drew | apply IsS153.set_1 | apply IsS153.set_2) | exact HI0.out)) (by (with_reducible repeat (first | apply Kd.R_alloc | apply Kd.R_drewN | apply Kd.R_drew)); exact HO787.out) (by decide)) hk (fun _ h => h.2)) (fun _ h => h.1)); have n1_ := Aside0.mk (KeepBut.trans (by repeat (first | (with_reducible first | exact HK.out | apply KeepBut.set_ | apply keep_drewN | apply keep_drew | apply keep_alloc) | exact HK.out)) hk (.inl rfl)); have n2_ := Aside0.mk (hb); have n3_ := Aside0.mk (hi); clear HO787; clear HK; clear HB; clear HI0; have HO787 := n0_; have HK := n1_; have HB := n2_; have HI0 := n3_; clear n0_ n1_ n2_ n3_; (try clear hb); (try clear hb2); (try clear hk); (try clear hi); obtain ⟨Ao12, co12, eo12⟩ := Kd.R_slice HO787.out; subst eo12; have p791 : 0 ≤ (t788 : Int) := of_decide_eq_true (by first | (with_reducible assumption) | assumption); have q791 : t788 < (y785.length : Int) := of_decide_eq_true (by first | (with_reducible assumption) | assumption); obtain ⟨ad791, e791, hx791_0⟩ := Kd.at_int (Kd.R_reads' HO787.out).2.2 t788 p791 q791; cases e791; replace p791 := eq_true p791; replace q791 := eq_true q791))
      go_ret
      exact ⟨by first | rfl | (simp only [i64_w, i32_w] <;> rfl) | (simp [errW_none, errW_some] <;> rfl) | (simp [*, errW_none, errW_some] <;> rfl), by repeat (first | (with_reducible first | exact HI0.out | apply IsS153.alloc | apply IsS153.drewN | apply IsS153.drew | apply IsS153.set_1 | apply IsS153.set_2) | exact HI0.out), by repeat (first | (with_reducible first | exact HB.out | apply below_alloc | apply pw_below_drewN | apply below_drew1 | refine below_set ?_ (IsS153.ge HI0.out)) | exact HB.out), by repeat (first | (with_reducible first | exact HK.out | apply KeepBut.set_ | apply keep_drewN | apply keep_drew | apply keep_alloc) | exact HK.out)⟩
    · rw [if_neg c6] at H
      exact absurd H (by simp)
  · rw [if_neg c5] at H
    exact absurd H (by simp)

/-! ### spec_l01Cur_ctlWord: function 111 -/
def spec_l01Cur_ctlWord.f (k : Nat) (s0_0 : List Int) (s0_1 : Int) (s0_2 : Int) : Option (Int × Int × Int) := (spec_l01Cur_ctl.f k s0_0 s0_1 s0_2).bind fun bt792 => ((spec_CtlPack.f k bt792.1 bt792.2.1 bt792.2.2.1 bt792.2.2.2.1).bind fun bt798 => ((spec_l01Cur_once.f s0_0 bt792.2.2.2.2.1 bt792.2.2.2.2.2 12).bind fun bt800 => (if bt800.1 = true then ((spec_l01Cur_word.f s0_0 bt800.2.1 bt800.2.2).bind fun bt803 => (some (bt803.1, bt803.2.1, bt803.2.2))) else (some (bt798.1, bt800.2.1, bt800.2.2)))))
theorem spec_l01Cur_ctlWord.mono : ∀ a0 a1 a2 k, LeO (spec_l01Cur_ctlWord.f k a0 a1 a2) (spec_l01Cur_ctlWord.f (k + 1) a0 a1 a2) := by
  intro a0 a1 a2 k
  unfold spec_l01Cur_ctlWord.f
  repeat' first
      | (with_reducible exact spec_CtlPack.mono _ _ _ _ _)
      | (with_reducible exact spec_l01Cur_ctl.mono _ _ _ _)
      | (with_reducible exact LeO.refl _)
      | (with_reducible exact LeO.none _)
      | (with_reducible refine LeO.ite ?_ ?_)
      | (with_reducible refine LeO.bind ?_ (fun _ => ?_))
      | exact spec_CtlPack.mono _ _ _ _ _
      | exact spec_l01Cur_ctl.mono _ _ _ _
      | exact LeO.none _
      | refine LeO.ite ?_ ?_
      | refine LeO.bind ?_ (fun _ => ?_)
set_option maxHeartbeats 8000000 in
set_option maxRecDepth 100000 in
theorem spec_l01Cur_ctlWord.calls (k : Nat) (g : Nat) (s0_0 : List Int) (s0_1 : Int) (s0_2 : Int) (r1 : Int) (r2 : Int) (r3 : Int) (w0 w : World) (hI : IsS153 w0 w g s0_0 s0_1 s0_2) (hB : Below w0.heap.size w0 w) (h : spec_l01Cur_ctlWord.f k s0_0 s0_1 s0_2 = some (r1, r2, r3)) :
    Calls Try.prog 111 #[.pointer (some ⟨g, 0, none⟩)] w fun e w' => e = .returned (.int .u32 r1) ∧ IsS153 w0 w' g s0_0 r2 r3 ∧ Below w0.heap.size w0 w' ∧ KeepBut w w' g none := by
  have HI0 := Aside0.mk hI
  have HK := Aside0.mk (KeepBut.refl w g none)
  have HL := Aside0.mk hB.size
  clear hI
  have HW0 := Aside0.mk hB.size
  have HB := Aside0.mk hB
  clear hB
  unfold spec_l01Cur_ctlWord.f at h
  have H := h
  clear h
  replace H := Option.bind_eq_some_iff.mp H
  obtain ⟨⟨t792, t793, t794, t795, t796, t797⟩, A20, H⟩ := H
  try dsimp only at H
  have A2 := Aside0.mk A20
  clear A20
  replace H := Option.bind_eq_some_iff.mp H
  obtain ⟨⟨t798, t799⟩, A30, H⟩ := H
  try dsimp only at H
  have A3 := Aside0.mk A30
  clear A30
  replace H := Option.bind_eq_some_iff.mp H
  obtain ⟨⟨t800, t801, t802⟩, A40, H⟩ := H
  try dsimp only at H
  have A4 := Aside0.mk A40
  clear A40
  have HU5 := Aside0.mk H
  clear H
  go_enter Try.func111, Try.ntmps111
  go_upto_if 12 with (first | ((with_reducible refine gate_callee (f := 143) rfl ?_); refine goesL_ (some 7) rfl rfl Try.func143 (by kernel_rfl) rfl #[.pointer (some ⟨g, 0, none⟩)] rfl (by (try simp only [List.map_toArray, List.map_cons, List.map_nil]); first | done | rfl | (simp only [List.length_drop, List.length_take]; rfl)) ?_; (with_reducible refine (spec_l01Cur_ctl.calls k g s0_0 s0_1 s0_2 t792 t793 t794 t795 t796 t797 w0 _ ?side1 ?side2 A2.out).mono ?_); (case side1 => repeat (first | (with_reducible first | exact HI0.out | apply IsS153.alloc | apply IsS153.drewN | apply IsS153.drew | apply IsS153.set_1 | apply IsS153.set_2) | exact HI0.out)); (case side2 => repeat (first | (with_reducible first | exact HB.out | apply below_alloc | apply pw_below_drewN | apply below_drew1 | refine below_set ?_ (IsS153.ge HI0.out)) | exact HB.out)); rintro e w6 ⟨rfl, hi, hb, hk⟩; refine ⟨_, rfl, ?_⟩; have n0_ := Aside0.mk (KeepBut.trans (by repeat (first | (with_reducible first | exact HK.out | apply KeepBut.set_ | apply keep_drewN | apply keep_drew | apply keep_alloc) | exact HK.out)) hk (.inl rfl)); have n1_ := Aside0.mk (hb); have n2_ := Aside0.mk (hi); clear HK; clear HB; clear HI0; have HK := n0_; have HB := n1_; have HI0 := n2_; clear n0_ n1_ n2_; (try clear hb); (try clear hb2); (try clear hk); (try clear hi)) | ((with_reducible refine gate_callee (f := 89) rfl ?_); refine goesL_ (some 8) rfl rfl Try.func89 (by kernel_rfl) rfl #[.agg #[.int .i64 t792, .int .i64 t793, .int .u32 t794, .int .i64 t795]] rfl (by (try simp only [List.map_toArray, List.map_cons, List.map_nil]); first | done | rfl | (simp only [List.length_drop, List.length_take]; rfl)) ?_; (with_reducible refine (spec_CtlPack.calls k t792 t793 t794 t795 t798 t799 _ A3.out).mono ?_); rintro e w7 ⟨rfl, hb⟩; refine ⟨_, rfl, ?_⟩; have n0_ := Aside0.mk (IsS153.below (by repeat (first | (with_reducible first | exact HI0.out | apply IsS153.alloc | apply IsS153.drewN | apply IsS153.drew | apply IsS153.set_1 | apply IsS153.set_2) | exact HI0.out)) hb); have n1_ := Aside0.mk (KeepBut.trans (by repeat (first | (with_reducible first | exact HK.out | apply KeepBut.set_ | apply keep_drewN | apply keep_drew | apply keep_alloc) | exact HK.out)) (KeepBut.of_below hb g none) (.inl rfl)); have n2_ := Aside0.mk (below_step (by repeat (first | (with_reducible first | exact HB.out | apply below_alloc | apply pw_below_drewN | apply below_drew1 | refine below_set ?_ (IsS153.ge HI0.out)) | exact HB.out)) hb); clear HI0; clear HK; clear HB; have HI0 := n0_; have HK := n1_; have HB := n2_; clear n0_ n1_ n2_; (try clear hb); (try clear hb2); (try clear hk); (try clear hi)) | ((with_reducible refine gate_callee (f := 112) rfl ?_); refine goesL_ (some 12) rfl rfl Try.func112 (by kernel_rfl) rfl #[.pointer (some ⟨g, 0, none⟩), .int .i64 12] rfl (by (try simp only [List.map_toArray, List.map_cons, List.map_nil]); first | done | rfl | (simp only [List.length_drop, List.length_take]; rfl)) ?_; (with_reducible refine (spec_l01Cur_once.calls g s0_0 t796 t797 12 t800 t801 t802 w0 _ ?side1 ?side2 A4.out).mono ?_); (case side1 => repeat (first | (with_reducible first | exact HI0.out | apply IsS153.alloc | apply IsS153.drewN | apply IsS153.drew | apply IsS153.set_1 | apply IsS153.set_2) | exact HI0.out)); (case side2 => repeat (first | (with_reducible first | exact HB.out | apply below_alloc | apply pw_below_drewN | apply below_drew1 | refine below_set ?_ (IsS153.ge HI0.out)) | exact HB.out)); rintro e w8 ⟨rfl, hi, hb, hk⟩; refine ⟨_, rfl, ?_⟩; have n0_ := Aside0.mk (KeepBut.trans (by repeat (first | (with_reducible first | exact HK.out | apply KeepBut.set_ | apply keep_drewN | apply keep_drew | apply keep_alloc) | exact HK.out)) hk (.inl rfl)); have n1_ := Aside0.mk (hb); have n2_ := Aside0.mk (hi); clear HK; clear HB; clear HI0; have HK := n0_; have HB := n1_; have HI0 := n2_; clear n0_ n1_ n2_; (try clear hb); (try clear hb2); (try clear hk); (try clear hi)))
  (try simp only [Act.put, List.setIfInBounds_toArray, List.set_cons_zero, List.set_cons_succ])
  have H := HU5.out
  clear HU5
  by_cases c9 : t800 = true
  · subst c9
    (try simp only [Bool.not_true, Bool.not_false])
    rw [if_pos rfl] at H
    replace H := Option.bind_eq_some_iff.mp H
    obtain ⟨⟨t803, t804, t805⟩, A100, H⟩ := H
    try dsimp only at H
    have A10 := Aside0.mk A100
    clear A100
    simp only [Option.some.injEq, Prod.mk.injEq] at H
    obtain ⟨rfl, rfl, rfl⟩ := H
    go_wp2_with (first | ((with_reducible refine gate_callee (f := 144) rfl ?_); refine goesL_ (some 14) rfl rfl Try.func144 (by kernel_rfl) rfl #[.pointer (some ⟨g, 0, none⟩)] rfl (by (try simp only [List.map_toArray, List.map_cons, List.map_nil]); first | done | rfl | (simp only [List.length_drop, List.length_take]; rfl)) ?_; (with_reducible refine (spec_l01Cur_word.calls g s0_0 t801 t802 t803 t804 t805 w0 _ ?side1 ?side2 A10.out).mono ?_); (case side1 => repeat (first | (with_reducible first | exact HI0.out | apply IsS153.alloc | apply IsS153.drewN | apply IsS153.drew | apply IsS153.set_1 | apply IsS153.set_2) | exact HI0.out)); (case side2 => repeat (first | (with_reducible first | exact HB.out | apply below_alloc | apply pw_below_drewN | apply below_drew1 | refine below_set ?_ (IsS153.ge HI0.out)) | exact HB.out)); rintro e w11 ⟨rfl, hi, hb, hk⟩; refine ⟨_, rfl, ?_⟩; have n0_ := Aside0.mk (KeepBut.trans (by repeat (first | (with_reducible first | exact HK.out | apply KeepBut.set_ | apply keep_drewN | apply keep_drew | apply keep_alloc) | exact HK.out)) hk (.inl rfl)); have n1_ := Aside0.mk (hb); have n2_ := Aside0.mk (hi); clear HK; clear HB; clear HI0; have HK := n0_; have HB := n1_; have HI0 := n2_; clear n0_ n1_ n2_; (try clear hb); (try clear hb2); (try clear hk); (try clear hi)))
    go_ret
    exact ⟨by first | rfl | (simp only [i64_w, i32_w] <;> rfl) | (simp [errW_none, errW_some] <;> rfl) | (simp [*, errW_none, errW_some] <;> rfl), by repeat (first | (with_reducible first | exact HI0.out | apply IsS153.alloc | apply IsS153.drewN | apply IsS153.drew | apply IsS153.set_1 | apply IsS153.set_2) | exact HI0.out), by repeat (first | (with_reducible first | exact HB.out | apply below_alloc | apply pw_below_drewN | apply below_drew1 | refine below_set ?_ (IsS153.ge HI0.out)) | exact HB.out), by repeat (first | (with_reducible first | exact HK.out | apply KeepBut.set_ | apply keep_drewN | apply keep_drew | apply keep_alloc) | exact HK.out)⟩
  · replace c9 := Bool.eq_false_iff.mpr c9
    subst c9
    (try simp only [Bool.not_true, Bool.not_false])
    rw [if_neg (show ¬ (false = true) by decide)] at H
    simp only [Option.some.injEq, Prod.mk.injEq] at H
    obtain ⟨rfl, rfl, rfl⟩ := H
    go_wp2
    go_ret
    exact ⟨by first | rfl | (simp only [i64_w, i32_w] <;> rfl) | (simp [errW_none, errW_some] <;> rfl) | (simp [*, errW_none, errW_some] <;> rfl), by repeat (first | (with_reducible first | exact HI0.out | apply IsS153.alloc | apply IsS153.drewN | apply IsS153.drew | apply IsS153.set_1 | apply IsS153.set_2) | exact HI0.out), by repeat (first | (with_reducible first | exact HB.out | apply below_alloc | apply pw_below_drewN | apply below_drew1 | refine below_set ?_ (IsS153.ge HI0.out)) | exact HB.out), by repeat (first | (with_reducible first | exact HK.out | apply KeepBut.set_ | apply keep_drewN | apply keep_drew | apply keep_alloc) | exact HK.out)⟩

end Go.Proofs.Ytmnjppfebaeoiaa.PC1
namespace Go.Proofs.Ytmnjppfebaeoiaa.PC1
open Go.RowKit Go.Proofs.YtmnjppfebaeoiaaW.PrintWords Go.Proofs.YtmnjppfebaeoiaaW.PrintLast Go.Proofs.YtmnjppfebaeoiaaW.PrintMore
attribute [local go_sem] max2_int min2_int max_two min_two max_three min_three max_four min_four   -- for this text's walks alone
set_option linter.unusedVariables false
set_option linter.unusedSimpArgs false

/-! ### spec_DrawRelease: function 46 -/
def spec_DrawRelease.j0 : Nat → Int → List Int → Bool → List Int → Int → Int → Int → Int → Int → Int → Option (Int × Int)
  | 0, _, _, _, _, _, _, _, _, _, _ => none
  | k + 1, x5, x8, x31, x826000, x826001, x826002, x835000, x835001, x835002, x835003 => if x31 = true then ((spec_l01Cur_pick.f x826000 x826001 x826002 (x8.length : Int)).bind fun bt841 => (if 0 ≤ bt841.1 then (if bt841.1 < (x8.length : Int) then ((spec_ClassSize.f k x835001).bind fun t845 => (some (x5, wrap64 ((rd x8 bt841.1) * t845)))) else (none)) else (none))) else ((spec_l01Cur_pick.f x826000 x826001 x826002 17).bind fun bt846 => ((spec_l01Cur_raw.f x826000 bt846.2.1 bt846.2.2).bind fun bt849 => ((some (([bt846.1, bt849.1] : List Int) : List Int)).bind fun y852 => ((spec_l01Cur_pick.f x826000 bt849.2.1 bt849.2.2 2).bind fun bt855 => (if 0 ≤ bt855.1 then (if bt855.1 < (y852.length : Int) then (some (x5, rd y852 bt855.1)) else (none)) else (none))))))
def spec_DrawRelease.f (k : Nat) (l0 : List Int) : Option (Int × Int) := (spec_l01Open.f l0).bind fun bt822 => ((spec_l01Cur_ctlWord.f k bt822.1 bt822.2.1 bt822.2.2).bind fun bt826 => ((spec_CtlRead.f k bt826.1).bind fun bt829 => ((spec_BitList.f k bt829.2.2.1).bind fun t835 => (if bt829.2.2.2.2 = true then (if (t835.length : Int) > 0 then ((spec_l01Cur_once.f bt822.1 bt826.2.1 bt826.2.2 4).bind fun bt838 => (spec_DrawRelease.j0 k bt826.1 t835 (!bt838.1) bt822.1 bt838.2.1 bt838.2.2 bt829.1 bt829.2.1 bt829.2.2.1 bt829.2.2.2.1)) else (spec_DrawRelease.j0 k bt826.1 t835 false bt822.1 bt826.2.1 bt826.2.2 bt829.1 bt829.2.1 bt829.2.2.1 bt829.2.2.2.1)) else (spec_DrawRelease.j0 k bt826.1 t835 false bt822.1 bt826.2.1 bt826.2.2 bt829.1 bt829.2.1 bt829.2.2.1 bt829.2.2.2.1)))))
theorem spec_DrawRelease.mono_l : ∀ k, (∀ y0 y1 y2 y3 y4 y5 y6 y7 y8 y9, LeO (spec_DrawRelease.j0 k y0 y1 y2 y3 y4 y5 y6 y7 y8 y9) (spec_DrawRelease.j0 (k + 1) y0 y1 y2 y3 y4 y5 y6 y7 y8 y9))
  | 0 => fun _ _ _ _ _ _ _ _ _ _ r h => by simp [spec_DrawRelease.j0] at h
  | k + 1 => by
    have ih0 := spec_DrawRelease.mono_l k
    · intro y0 y1 y2 y3 y4 y5 y6 y7 y8 y9
      unfold spec_DrawRelease.j0
      repeat' first
      | (with_reducible exact ih0 _ _ _ _ _ _ _ _ _ _)
      | (with_reducible exact spec_BitList.mono _ _)
      | (with_reducible exact spec_ClassSize.mono _ _)
      | (with_reducible exact spec_CtlRead.mono _ _)
      | (with_reducible exact spec_l01Cur_ctlWord.mono _ _ _ _)
      | (with_reducible exact LeO.refl _)
      | (with_reducible exact LeO.none _)
      | (with_reducible refine LeO.ite ?_ ?_)
      | (with_reducible refine LeO.bind ?_ (fun _ => ?_))
      | exact ih0 _ _ _ _ _ _ _ _ _ _
      | exact spec_BitList.mono _ _
      | exact spec_ClassSize.mono _ _
      | exact spec_CtlRead.mono _ _
      | exact spec_l01Cur_ctlWord.mono _ _ _ _
      | exact LeO.none _
      | refine LeO.ite ?_ ?_
      | refine LeO.bind ?_ (fun _ => ?_)
theorem spec_DrawRelease.mono : ∀ a0 k, LeO (spec_DrawRelease.f k a0) (spec_DrawRelease.f (k + 1) a0) := by
  intro a0 k
  have ih0 := spec_DrawRelease.mono_l k
  unfold spec_DrawRelease.f
  repeat' first
      | (with_reducible exact ih0 _ _ _ _ _ _ _ _ _ _)
      | (with_reducible exact spec_BitList.mono _ _)
      | (with_reducible exact spec_ClassSize.mono _ _)
      | (with_reducible exact spec_CtlRead.mono _ _)
      | (with_reducible exact spec_l01Cur_ctlWord.mono _ _ _ _)
      | (with_reducible exact LeO.refl _)
      | (with_reducible exact LeO.none _)
      | (with_reducible refine LeO.ite ?_ ?_)
      | (with_reducible refine LeO.bind ?_ (fun _ => ?_))
      | exact ih0 _ _ _ _ _ _ _ _ _ _
      | exact spec_BitList.mono _ _
      | exact spec_ClassSize.mono _ _
      | exact spec_CtlRead.mono _ _
      | exact spec_l01Cur_ctlWord.mono _ _ _ _
      | exact LeO.none _
      | refine LeO.ite ?_ ?_
      | refine LeO.bind ?_ (fun _ => ?_)
def spec_DrawRelease.T6 : Bool × List (List Nat × List Nat) := (true, [([], []), ([], []), ([], []), ([], []), ([3], [3]), ([2, 4], [2, 4]), ([1, 5], [1, 5]), ([6], [6]), ([], []), ([8], [8]), ([9, 5], [9]), ([7, 10], [7, 10]), ([0, 10, 0], [0]), ([11, 12, 0, 1, 2, 3, 4, 5, 6, 7, 8, 9, 10, 11, 12], [11])])
def spec_DrawRelease.B6 : List Nat := [0, 0, 0, 0, 8, 28, 62, 126, 0, 256, 828, 2046, 1853, 8191]
theorem spec_DrawRelease.tab6 : rtab .any (opsOf Try.f46 6) = spec_DrawRelease.T6 := by kernel_rfl
theorem spec_DrawRelease.bits6 : waitsOk spec_DrawRelease.T6.2 spec_DrawRelease.B6 = true := by kernel_rfl
def spec_DrawRelease.T7 : Bool × List (List Nat × List Nat) := (true, [([], []), ([], []), ([1], [1]), ([], []), ([3, 2], [3]), ([2, 4], [2, 4]), ([], []), ([6, 4], [6]), ([5, 7], [5, 7]), ([8], [8]), ([0, 7, 0], [0]), ([9, 10, 0, 1, 2, 3, 4, 5, 6, 7, 8, 9, 10], [9])])
def spec_DrawRelease.B7 : List Nat := [0, 0, 2, 0, 14, 30, 0, 94, 254, 510, 223, 2047]
theorem spec_DrawRelease.tab7 : rtab .any (opsOf Try.f46 7) = spec_DrawRelease.T7 := by kernel_rfl
theorem spec_DrawRelease.bits7 : waitsOk spec_DrawRelease.T7.2 spec_DrawRelease.B7 = true := by kernel_rfl
set_option maxHeartbeats 8000000 in
set_option maxRecDepth 100000 in
theorem spec_DrawRelease.calls (k : Nat) (A0 : Option Addr) (c0 : Nat) (l0 : List Int) (r1 : Int) (r2 : Int) (w : World) (hr0 : Kd.C (Kd.int .u8) w A0 l0.length l0) (hc0 : l0.length ≤ c0) (h : spec_DrawRelease.f k l0 = some (r1, r2)) :
    Calls Try.prog 46 #[.slice A0 l0.length c0] w fun e w' => e = .returned (.tuple #[.int .u32 r1, .int .i64 r2]) ∧ Below w.heap.size w w' := by
  have hu78 := Try.underlying78
  have HR0 := Aside0.mk hr0
  have HC0 := Aside0.mk hc0
  clear hr0 hc0
  have HB := Aside0.mk (Below.refl w.heap.size w)
  unfold spec_DrawRelease.f at h
  have H := h
  clear h
  replace H := Option.bind_eq_some_iff.mp H
  obtain ⟨⟨t822, t823, t824⟩, A20, H⟩ := H
  try dsimp only at H
  have A2 := Aside0.mk A20
  clear A20
  replace H := Option.bind_eq_some_iff.mp H
  obtain ⟨⟨t826, t827, t828⟩, A30, H⟩ := H
  try dsimp only at H
  have A3 := Aside0.mk A30
  clear A30
  replace H := Option.bind_eq_some_iff.mp H
  obtain ⟨⟨t829, t830, t831, t832, t833⟩, A40, H⟩ := H
  try dsimp only at H
  have A4 := Aside0.mk A40
  clear A40
  replace H := Option.bind_eq_some_iff.mp H
  obtain ⟨t835, A50, H⟩ := H
  try dsimp only at H
  have A5 := Aside0.mk A50
  clear A50
  have HC6 := Aside0.mk H
  clear H
  go_enter Try.func46, Try.ntmps46
  go_upto_region 5 with (first | ((with_reducible refine gate_callee (f := 110) rfl ?_); refine goesL_ (some 10) rfl rfl Try.func110 (by kernel_rfl) rfl #[.slice A0 l0.length c0] rfl (by (try simp only [List.map_toArray, List.map_cons, List.map_nil]); first | done | rfl | (simp only [List.length_drop, List.length_take]; rfl)) ?_; (with_reducible refine (spec_l01Open.calls _ _ l0 t822 t823 t824 w _ ?side1 ?side2 ?side3 A2.out).mono ?_); (case side1 => repeat (first | (with_reducible first | exact HB.out | apply below_alloc | apply pw_below_drewN | apply below_drew1) | exact HB.out)); (case side2 => exact HR0.out); (case side3 => exact HC0.out); rintro e w7 ⟨g825, rfl, hi, hb, hb2⟩; refine ⟨_, rfl, ?_⟩; have n0_ := Aside0.mk (hb); have n1_ := Aside0.mk (hi); clear HB; have HB := n0_; have HI825 := n1_; clear n0_ n1_; (try clear hb); (try clear hb2); (try clear hk); (try clear hi)) | ((with_reducible refine gate_callee (f := 111) rfl ?_); refine goesL_ (some 12) rfl rfl Try.func111 (by kernel_rfl) rfl #[.pointer (some ⟨g825, 0, none⟩)] rfl (by (try simp only [List.map_toArray, List.map_cons, List.map_nil]); first | done | rfl | (simp only [List.length_drop, List.length_take]; rfl)) ?_; (with_reducible refine (spec_l01Cur_ctlWord.calls k g825 t822 t823 t824 t826 t827 t828 w _ ?side1 ?side2 A3.out).mono ?_); (case side1 => repeat (first | (with_reducible first | exact HI825.out | apply IsS153.alloc | apply IsS153.drewN | apply IsS153.drew | apply IsS153.set_1 | apply IsS153.set_2) | exact HI825.out)); (case side2 => repeat (first | (with_reducible first | exact HB.out | apply below_alloc | apply pw_below_drewN | apply below_drew1 | refine below_set ?_ (IsS153.ge HI825.out)) | exact HB.out)); rintro e w8 ⟨rfl, hi, hb, hk⟩; refine ⟨_, rfl, ?_⟩; have n0_ := Aside0.mk (hb); have n1_ := Aside0.mk (hi); clear HB; clear HI825; have HB := n0_; have HI825 := n1_; clear n0_ n1_; (try clear hb); (try clear hb2); (try clear hk); (try clear hi)) | ((with_reducible refine gate_callee (f := 85) rfl ?_); refine goesL_ (some 15) rfl rfl Try.func85 (by kernel_rfl) rfl #[.int .u32 t826] rfl (by (try simp only [List.map_toArray, List.map_cons, List.map_nil]); first | done | rfl | (simp only [List.length_drop, List.length_take]; rfl)) ?_; (with_reducible refine (spec_CtlRead.calls k t826 t829 t830 t831 t832 t833 _ A4.out).mono ?_); rintro e w9 ⟨rfl, hb⟩; refine ⟨_, rfl, ?_⟩; have n0_ := Aside0.mk (IsS153.below (by repeat (first | (with_reducible first | exact HI825.out | apply IsS153.alloc | apply IsS153.drewN | apply IsS153.drew | apply IsS153.set_1 | apply IsS153.set_2) | exact HI825.out)) hb); have n1_ := Aside0.mk (below_step (by repeat (first | (with_reducible first | exact HB.out | apply below_alloc | apply pw_below_drewN | apply below_drew1 | refine below_set ?_ (IsS153.ge HI825.out)) | exact HB.out)) hb); clear HI825; clear HB; have HI825 := n0_; have HB := n1_; clear n0_ n1_; (try clear hb); (try clear hb2); (try clear hk); (try clear hi)) | ((with_reducible refine gate_dst (N := 6) rfl ?_); (try (refine gate_guard (by rfl) ?_; dsimp only)); refine box_event ?hg (N := 6) ?hd (cs := #[.int .i64 0, .int .i64 0, .int .u32 0, .int .i64 0]) (t := 78) ?hr ?_; (case hd => rfl); (case hg => rfl); (case hr => first | (go_simp; done) | (go_simp; rfl)); intro gb834 hg w10 hbox hb; have n0_ := Aside0.mk (IsS153.below (by repeat (first | (with_reducible first | exact HI825.out | apply IsS153.alloc | apply IsS153.drewN | apply IsS153.drew | apply IsS153.set_1 | apply IsS153.set_2) | exact HI825.out)) hb); have n1_ := Aside0.mk (below_step (by repeat (first | (with_reducible first | exact HB.out | apply below_alloc | apply pw_below_drewN | apply below_drew1 | refine below_set ?_ (IsS153.ge HI825.out)) | exact HB.out)) hb); have n2_ := Aside0.mk (hbox); have n3_ := Aside0.mk ((by rw [hg]; exact (below_size (by repeat (first | (with_reducible first | exact HB.out | apply below_alloc | apply pw_below_drewN | apply below_drew1 | refine below_set ?_ (IsS153.ge HI825.out)) | exact HB.out))) : w.heap.size ≤ gb834)); have n4_ := Aside0.mk ((by rw [hg]; exact (below_size (by repeat (first | (with_reducible first | exact HB.out | apply below_alloc | apply pw_below_drewN | apply below_drew1 | refine below_set ?_ (IsS153.ge HI825.out)) | exact HB.out))) : w.heap.size ≤ gb834)); have n5_ := Aside0.mk ((by rw [hg]; exact Nat.ne_of_lt (IsS153.lt (show IsS153 w _ g825 t822 t827 t828 from by repeat (first | (with_reducible first | exact HI825.out | apply IsS153.alloc | apply IsS153.drewN | apply IsS153.drew | apply IsS153.set_1 | apply IsS153.set_2) | exact HI825.out))) : g825 ≠ gb834)); have n6_ := Aside0.mk ((by rw [hg]; exact Nat.ne_of_gt (IsS153.lt (show IsS153 w _ g825 t822 t827 t828 from by repeat (first | (with_reducible first | exact HI825.out | apply IsS153.alloc | apply IsS153.drewN | apply IsS153.drew | apply IsS153.set_1 | apply IsS153.set_2) | exact HI825.out))) : gb834 ≠ g825)); clear HI825; clear HB; have HI825 := n0_; have HB := n1_; have BK834 := n2_; have GW834 := n3_; have GE834 := n4_; have NB825_834 := n5_; have NB834_825 := n6_; clear n0_ n1_ n2_ n3_ n4_ n5_ n6_; clear hb hbox hg; have hnb11 := NB834_825.out; have hnc11 := NB825_834.out; have hcz12_0 : w10.cell? ⟨gb834, 0, none⟩ = some (.int .i64 0) := (blk_cell BK834.out 0).trans rfl; have hcz12_1 : w10.cell? ⟨gb834, 1, none⟩ = some (.int .i64 0) := (blk_cell BK834.out 1).trans rfl; have hcz12_2 : w10.cell? ⟨gb834, 2, none⟩ = some (.int .u32 0) := (blk_cell BK834.out 2).trans rfl; have hcz12_3 : w10.cell? ⟨gb834, 3, none⟩ = some (.int .i64 0) := (blk_cell BK834.out 3).trans rfl; have hfz12_0 := blk_frozen BK834.out 0; have hfz12_1 := blk_frozen BK834.out 1; have hfz12_2 := blk_frozen BK834.out 2; have hfz12_3 := blk_frozen BK834.out 3) | ((with_reducible refine gate_callee (f := 98) rfl ?_); refine goesL_ (some 20) rfl rfl Try.func98 (by kernel_rfl) rfl #[.int .u32 t831] rfl (by (try simp only [List.map_toArray, List.map_cons, List.map_nil]); first | done | rfl | (simp only [List.length_drop, List.length_take]; rfl)) ?_; (with_reducible refine (spec_BitList.calls k t831 t835 _ A5.out).mono ?_); rintro e w13 ⟨v836, rfl, ho0, hb⟩; refine ⟨_, rfl, ?_⟩; have n0_ := Aside0.mk (Kd.R_lower ho0 (below_size (by repeat (first | (with_reducible first | exact HB.out | apply below_alloc | apply pw_below_drewN | apply below_drew1 | refine below_set ?_ (IsS153.ge HI825.out) | refine below_set ?_ GE834.out) | exact HB.out)))); have n1_ := Aside0.mk (IsS153.below (show IsS153 w ((((w10.setCell ⟨gb834, 0, none⟩ (.int .i64 t829)).setCell ⟨gb834, 1, none⟩ (.int .i64 t830)).setCell ⟨gb834, 2, none⟩ (.int .u32 t831)).setCell ⟨gb834, 3, none⟩ (.int .i64 t832)) g825 t822 t827 t828 from by repeat (first | (with_reducible first | exact HI825.out | apply IsS153.alloc | apply IsS153.drewN | apply IsS153.drew | apply IsS153.set_1 | apply IsS153.set_2 | refine IsS153.far ?_ NB825_834.out _) | exact HI825.out)) hb); have n2_ := Aside0.mk (blk_below (g := gb834) (o := .cells #[.int .i64 t829, .int .i64 t830, .int .u32 t831, .int .i64 t832] 78 (0, 0)) (by (with_reducible repeat (first | refine blk_drewN ?_ _ | refine blk_drew ?_ | refine blk_alloc ?_ _)); refine blk_put (cs := #[.int .i64 t829, .int .i64 t830, .int .u32 t831, .int .i64 0]) ?_ 3 _ rfl; (with_reducible repeat (first | refine blk_drewN ?_ _ | refine blk_drew ?_ | refine blk_alloc ?_ _)); refine blk_put (cs := #[.int .i64 t829, .int .i64 t830, .int .u32 0, .int .i64 0]) ?_ 2 _ rfl; (with_reducible repeat (first | refine blk_drewN ?_ _ | refine blk_drew ?_ | refine blk_alloc ?_ _)); refine blk_put (cs := #[.int .i64 t829, .int .i64 0, .int .u32 0, .int .i64 0]) ?_ 1 _ rfl; (with_reducible repeat (first | refine blk_drewN ?_ _ | refine blk_drew ?_ | refine blk_alloc ?_ _)); refine blk_put (cs := #[.int .i64 0, .int .i64 0, .int .u32 0, .int .i64 0]) ?_ 0 _ rfl; (with_reducible repeat (first | refine blk_drewN ?_ _ | refine blk_drew ?_ | refine blk_alloc ?_ _)); exact BK834.out) hb); have n3_ := Aside0.mk (below_step (by repeat (first | (with_reducible first | exact HB.out | apply below_alloc | apply pw_below_drewN | apply below_drew1 | refine below_set ?_ (IsS153.ge HI825.out) | refine below_set ?_ GE834.out) | exact HB.out)) hb); clear HI825; clear BK834; clear HB; have HO837 := n0_; have HI825 := n1_; have BK834 := n2_; have HB := n3_; clear n0_ n1_ n2_ n3_; (try clear hb); (try clear hb2); (try clear hk); (try clear hi); (try clear ho0)))
  (try simp only [Act.put, List.setIfInBounds_toArray, List.set_cons_zero, List.set_cons_succ])
  go_cut [31] (fun v31 wc => ∃ (kq : Nat) (x31_5 : Bool) (x826001_5 : Int) (x826002_5 : Int), v31 = .bool x31_5 ∧ Aside0 (spec_DrawRelease.j0 kq t826 t835 x31_5 t822 x826001_5 x826002_5 t829 t830 t831 t832 = some (r1, r2)) ∧ Aside0 (kq ≤ k) ∧ Aside0 (Kd.R (Kd.int .i64) 3 wc w.heap.size (fun _ => True) v836 t835) ∧ Aside0 (wc.heap[gb834]? = some (.cells #[.int .i64 t829, .int .i64 t830, .int .u32 t831, .int .i64 t832] 78 (0, 0))) ∧ Aside0 (IsS153 w wc g825 t822 x826001_5 x826002_5) ∧ Aside0 (Below w.heap.size w wc))
  case first =>
    have H := HC6.out
    clear HC6
    by_cases c14 : t833 = true
    · subst c14
      (try simp only [Bool.not_true, Bool.not_false])
      rw [if_pos rfl] at H
      by_cases c15 : (t835.length : Int) > 0
      · rw [if_pos c15] at H
        have c15b0 : decide (0 < (t835.length : Int)) = true := decide_eq_true c15
        have c15b1 : decide (0 < t835.length) = true := decide_eq_true (by omega)
        clear c15
        replace H := Option.bind_eq_some_iff.mp H
        obtain ⟨⟨t838, t839, t840⟩, A160, H⟩ := H
        try dsimp only at H
        have A16 := Aside0.mk A160
        clear A160
        have H' := Aside0.mk H
        clear H
        obtain ⟨Ao17, co17, eo17⟩ := Kd.R_slice HO837.out
        subst eo17
        go_wp2_with (first | (go_at_call 112; (with_reducible refine (spec_l01Cur_once.calls g825 t822 t827 t828 4 t838 t839 t840 w _ ?side1 ?side2 A16.out).mono ?_); (case side1 => repeat (first | (with_reducible first | exact HI825.out | apply IsS153.alloc | apply IsS153.drewN | apply IsS153.drew | apply IsS153.set_1 | apply IsS153.set_2 | refine IsS153.far ?_ NB825_834.out _) | exact HI825.out)); (case side2 => repeat (first | (with_reducible first | exact HB.out | apply below_alloc | apply pw_below_drewN | apply below_drew1 | refine below_set ?_ (IsS153.ge HI825.out) | refine below_set ?_ GE834.out) | exact HB.out)); rintro e w18 ⟨rfl, hi, hb, hk⟩; have n0_ := Aside0.mk (KeepBut.blk hk (g' := gb834) (o := .cells #[.int .i64 t829, .int .i64 t830, .int .u32 t831, .int .i64 t832] 78 (0, 0)) (by (with_reducible repeat (first | refine blk_drewN ?_ _ | refine blk_drew ?_ | refine blk_alloc ?_ _)); exact BK834.out) NB834_825.out (by simp)); have n1_ := Aside0.mk (Kd.R_mono (Kd.R_keep (IsS153.apart (show IsS153 w _ g825 t822 t827 t828 from by repeat (first | (with_reducible first | exact HI825.out | apply IsS153.alloc | apply IsS153.drewN | apply IsS153.drew | apply IsS153.set_1 | apply IsS153.set_2 | refine IsS153.far ?_ NB825_834.out _) | exact HI825.out)) (by (with_reducible repeat (first | apply Kd.R_alloc | apply Kd.R_drewN | apply Kd.R_drew)); exact HO837.out) (by decide)) hk (fun _ h => h.2)) (fun _ h => h.1)); have n2_ := Aside0.mk (hb); have n3_ := Aside0.mk (hi); clear BK834; clear HO837; clear HB; clear HI825; have BK834 := n0_; have HO837 := n1_; have HB := n2_; have HI825 := n3_; clear n0_ n1_ n2_ n3_; (try clear hb); (try clear hb2); (try clear hk); (try clear hi)))
        go_meet
        case rel => exact ⟨_, (!t838), (t839), (t840), (by first | rfl | (simp; done) | (simp [*]; done) | (simp; rw [Int.tdiv_eq_ediv_of_nonneg (by omega)])), H', ⟨by first | omega | exact Nat.le_refl _⟩, ⟨by (with_reducible repeat (first | apply Kd.R_alloc | apply Kd.R_drewN | apply Kd.R_drew)); exact HO837.out⟩, ⟨by (with_reducible repeat (first | refine blk_drewN ?_ _ | refine blk_drew ?_ | refine blk_alloc ?_ _)); exact BK834.out⟩, ⟨by repeat (first | (with_reducible first | exact HI825.out | apply IsS153.alloc | apply IsS153.drewN | apply IsS153.drew | apply IsS153.set_1 | apply IsS153.set_2 | refine IsS153.far ?_ NB825_834.out _) | exact HI825.out)⟩, ⟨by repeat (first | (with_reducible first | exact HB.out | apply below_alloc | apply pw_below_drewN | apply below_drew1 | refine below_set ?_ (IsS153.ge HI825.out) | refine below_set ?_ GE834.out) | exact HB.out)⟩⟩
      · rw [if_neg c15] at H
        have c15b0 : decide (0 < (t835.length : Int)) = false := decide_eq_false c15
        have c15b1 : decide (0 < t835.length) = false := decide_eq_false (by omega)
        clear c15
        have H' := Aside0.mk H
        clear H
        obtain ⟨Ao19, co19, eo19⟩ := Kd.R_slice HO837.out
        subst eo19
        go_wp2
        go_meet
        case rel => exact ⟨_, (false), (t827), (t828), (by first | rfl | (simp; done) | (simp [*]; done) | (simp; rw [Int.tdiv_eq_ediv_of_nonneg (by omega)])), H', ⟨by first | omega | exact Nat.le_refl _⟩, ⟨by (with_reducible repeat (first | apply Kd.R_alloc | apply Kd.R_drewN | apply Kd.R_drew)); exact HO837.out⟩, ⟨by (with_reducible repeat (first | refine blk_drewN ?_ _ | refine blk_drew ?_ | refine blk_alloc ?_ _)); exact BK834.out⟩, ⟨by repeat (first | (with_reducible first | exact HI825.out | apply IsS153.alloc | apply IsS153.drewN | apply IsS153.drew | apply IsS153.set_1 | apply IsS153.set_2 | refine IsS153.far ?_ NB825_834.out _) | exact HI825.out)⟩, ⟨by repeat (first | (with_reducible first | exact HB.out | apply below_alloc | apply pw_below_drewN | apply below_drew1 | refine below_set ?_ (IsS153.ge HI825.out) | refine below_set ?_ GE834.out) | exact HB.out)⟩⟩
    · replace c14 := Bool.eq_false_iff.mpr c14
      subst c14
      (try simp only [Bool.not_true, Bool.not_false])
      rw [if_neg (show ¬ (false = true) by decide)] at H
      have H' := Aside0.mk H
      clear H
      go_wp2
      go_meet
      case rel => exact ⟨_, (false), (t827), (t828), (by first | rfl | (simp; done) | (simp [*]; done) | (simp; rw [Int.tdiv_eq_ediv_of_nonneg (by omega)])), H', ⟨by first | omega | exact Nat.le_refl _⟩, ⟨by (with_reducible repeat (first | apply Kd.R_alloc | apply Kd.R_drewN | apply Kd.R_drew)); exact HO837.out⟩, ⟨by (with_reducible repeat (first | refine blk_drewN ?_ _ | refine blk_drew ?_ | refine blk_alloc ?_ _)); exact BK834.out⟩, ⟨by repeat (first | (with_reducible first | exact HI825.out | apply IsS153.alloc | apply IsS153.drewN | apply IsS153.drew | apply IsS153.set_1 | apply IsS153.set_2 | refine IsS153.far ?_ NB825_834.out _) | exact HI825.out)⟩, ⟨by repeat (first | (with_reducible first | exact HB.out | apply below_alloc | apply pw_below_drewN | apply below_drew1 | refine below_set ?_ (IsS153.ge HI825.out) | refine below_set ?_ GE834.out) | exact HB.out)⟩⟩
  case rest =>
    clear HC6
    try clear c1
    try clear p2
    try clear c4
    try clear c8
    try clear c9
    try clear c11
    try clear c14
    try clear c15
    try clear c15b0
    try clear c15b1
    try clear hcz12_0
    try clear hcz12_1
    try clear hcz12_2
    try clear hcz12_3
    try clear hfz12_0
    try clear hfz12_1
    try clear hfz12_2
    try clear hfz12_3
    obtain ⟨kq, x31_5, x826001_5, x826002_5, rfl, HA, HJ5, HO_8, BK834, HI825, HB⟩ := hcut
    cases kq with
    | zero => exact absurd HA.out (by simp [spec_DrawRelease.j0])
    | succ kj5 =>
      have H := HA.out
      clear HA
      simp only [spec_DrawRelease.j0] at H
      by_cases c20 : x31_5 = true
      · subst c20
        rw [if_pos rfl] at H
        replace H := Option.bind_eq_some_iff.mp H
        obtain ⟨⟨t841, t842, t843⟩, A210, H⟩ := H
        try dsimp only at H
        have A21 := Aside0.mk A210
        clear A210
        by_cases c22 : 0 ≤ t841
        · rw [if_pos c22] at H
          have c22b0 : decide (0 ≤ t841) = true := decide_eq_true c22
          clear c22
          by_cases c23 : t841 < (t835.length : Int)
          · rw [if_pos c23] at H
            have c23b0 : decide (t841 < (t835.length : Int)) = true := decide_eq_true c23
            clear c23
            replace H := Option.bind_eq_some_iff.mp H
            obtain ⟨t845, A240, H⟩ := H
            try dsimp only at H
            have A24 := Aside0.mk A240
            clear A240
            simp only [Option.some.injEq, Prod.mk.injEq] at H
            obtain ⟨rfl, rfl⟩ := H
            try go_wp2
            have n0_ := Aside0.mk (Kd.R_drew HO_8.out)
            have n1_ := Aside0.mk (blk_drew BK834.out)
            have n2_ := Aside0.mk (IsS153.drew HI825.out)
            have n3_ := Aside0.mk (below_drew1 HB.out)
            clear HO_8
            clear BK834
            clear HI825
            clear HB
            have HO_8 := n0_
            have BK834 := n1_
            have HI825 := n2_
            have HB := n3_
            clear n0_ n1_ n2_ n3_
            obtain ⟨Ao26, co26, eo26⟩ := Kd.R_slice HO_8.out
            (first | subst eo26 | (injection eo26 with f1_ f2_ f3_; have f4_ := f1_.symm; have f5_ := f3_.symm; clear f1_ f2_ f3_; subst f4_; subst f5_))
            have p844 : 0 ≤ (t841 : Int) := of_decide_eq_true (by first | (with_reducible assumption) | assumption)
            have q844 : t841 < (t835.length : Int) := of_decide_eq_true (by first | (with_reducible assumption) | assumption)
            obtain ⟨ad844, e844, hx844_0⟩ := Kd.at_int (Kd.R_reads' HO_8.out).2.2 t841 p844 q844
            cases e844
            replace p844 := eq_true p844
            replace q844 := eq_true q844
            refine start_ (n := 14) (S := fun w' => w'.cell? ⟨gb834, 0, none⟩ = some (.int .i64 t829) ∧ w'.cell? ⟨gb834, 1, none⟩ = some (.int .i64 t830) ∧ w'.cell? ⟨gb834, 2, none⟩ = some (.int .u32 t831) ∧ w'.cell? ⟨gb834, 3, none⟩ = some (.int .i64 t832) ∧ w'.cell? (ad844.add (t841).toNat) = some (.int .i64 (rd t835 t841))) (ds := []) #[false, false, false, false, false, false, false, false, false, false, false, false, false, false] (by kernel_rfl) rfl rfl ⟨(blk_cell BK834.out 0).trans rfl, (blk_cell BK834.out 1).trans rfl, (blk_cell BK834.out 2).trans rfl, (blk_cell BK834.out 3).trans rfl, hx844_0⟩ (fun hHeld => ?_); refine with_tabW spec_DrawRelease.tab6 spec_DrawRelease.bits6 (fun HT_ HW_ => ?_)
            generalize wc.drew = w25 at HO_8 BK834 HI825 HB hx844_0 hHeld ⊢
            refine pure_ (i := 0) (N := some 32) (v := ?_) (a' := ?_) #[true, false, false, false, false, false, false, false, false, false, false, false, false, false] rfl rfl (any_of HT_.out (by kernel_rfl)) (fun _ _ _ h => h) (Or.inl ⟨by rfl, ?_⟩) ?_ ?_
            rotate_left
            · intro w'
              go_simp
              with_reducible rfl
            rotate_left
            · simp only [Act.put, List.setIfInBounds_toArray, List.set_cons_zero, List.set_cons_succ, i64_w, i32_w]
              rfl
            refine pure_ (i := 1) (N := some 33) (v := ?_) (a' := ?_) #[true, true, false, false, false, false, false, false, false, false, false, false, false, false] rfl rfl (any_of HT_.out (by kernel_rfl)) (fun _ _ _ h => h) (Or.inl ⟨by rfl, ?_⟩) ?_ ?_
            rotate_left
            · intro w'
              go_simp
              with_reducible rfl
            rotate_left
            · simp only [Act.put, List.setIfInBounds_toArray, List.set_cons_zero, List.set_cons_succ, i64_w, i32_w]
              rfl
            refine pure_ (i := 2) (N := some 34) (v := ?_) (a' := ?_) #[true, true, true, false, false, false, false, false, false, false, false, false, false, false] rfl rfl (any_of HT_.out (by kernel_rfl)) (fun _ _ _ h => h) (Or.inl ⟨by rfl, ?_⟩) ?_ ?_
            rotate_left
            · intro w'
              go_simp
              with_reducible rfl
            rotate_left
            · simp only [Act.put, List.setIfInBounds_toArray, List.set_cons_zero, List.set_cons_succ, i64_w, i32_w]
              rfl
            refine pure_ (i := 3) (N := some 35) (v := ?_) (a' := ?_) #[true, true, true, true, false, false, false, false, false, false, false, false, false, false] rfl rfl (any_of HT_.out (by kernel_rfl)) (fun _ _ _ h => h) (Or.inl ⟨by rfl, ?_⟩) ?_ ?_
            rotate_left
            · intro w'
              go_simp
              with_reducible rfl
            rotate_left
            · simp only [Act.put, List.setIfInBounds_toArray, List.set_cons_zero, List.set_cons_succ, i64_w, i32_w]
              rfl
            refine pure_ (i := 4) (N := some 36) (v := ?_) (a' := ?_) #[true, true, true, true, true, false, false, false, false, false, false, false, false, false] rfl rfl (any_of HT_.out (by kernel_rfl)) (fun _ _ _ h => h) (Or.inl ⟨by rfl, ?_⟩) ?_ ?_
            rotate_left
            · intro w'
              go_simp
              with_reducible rfl
            rotate_left
            · simp only [Act.put, List.setIfInBounds_toArray, List.set_cons_zero, List.set_cons_succ, i64_w, i32_w]
              rfl
            refine pure_ (i := 8) (N := some 40) (v := ?_) (a' := ?_) #[true, true, true, true, true, false, false, false, true, false, false, false, false, false] rfl rfl (any_of HT_.out (by kernel_rfl)) (fun _ _ _ h => h) (Or.inl ⟨by rfl, ?_⟩) ?_ ?_
            rotate_left
            · intro w'
              go_simp
              with_reducible rfl
            rotate_left
            · simp only [Act.put, List.setIfInBounds_toArray, List.set_cons_zero, List.set_cons_succ, i64_w, i32_w]
              rfl
            refine take_ (i := 9) (N := some 41) (v := ?_) (a' := ?_) #[true, true, true, true, true, false, false, false, true, true, false, false, false, false] rfl rfl (take_ofW HT_.out HW_.out (by kernel_rfl)) (fun _ _ _ h => h) (Or.inl ⟨by rfl, ?_⟩) hHeld ?_ ?_
            rotate_left
            · rintro w' ⟨s0, s1, s2, s3, s4⟩
              go_simp
              with_reducible rfl
            rotate_left
            · simp only [Act.put, List.setIfInBounds_toArray, List.set_cons_zero, List.set_cons_succ, i64_w, i32_w]
              rfl
            refine one_ (i := 5) (N := some 37) #[true, true, true, true, true, true, false, false, true, true, false, false, false, false] rfl rfl (one_of HT_.out (by kernel_rfl)) (by decide) (fun K hK => ?_)
            refine goes_ Try.func113 (by kernel_rfl) rfl #[.pointer (some ⟨g825, 0, none⟩), .int .i64 (t835.length : Int)] (by rfl) rfl rfl (by (try simp only [List.map_toArray, List.map_cons, List.map_nil]); first | done | rfl | (simp only [List.length_drop, List.length_take]; rfl)) ?_
            with_reducible refine (spec_l01Cur_pick.calls g825 t822 x826001_5 x826002_5 (t835.length : Int) t841 t842 t843 w _ ?side1 ?side2 A21.out).mono ?_
            (case side1 => repeat (first | (with_reducible first | exact HI825.out | apply IsS153.alloc | apply IsS153.drewN | apply IsS153.drew | apply IsS153.set_1 | apply IsS153.set_2 | refine IsS153.far ?_ NB825_834.out _) | exact HI825.out))
            (case side2 => repeat (first | (with_reducible first | exact HB.out | apply below_alloc | apply pw_below_drewN | apply below_drew1 | refine below_set ?_ (IsS153.ge HI825.out) | refine below_set ?_ GE834.out) | exact HB.out))
            rintro e w27 ⟨rfl, hi, hb, hk⟩
            have HS4_ := keep_cell hk (hHeld.2.2.2.2) (by first | (rw [add_block]; exact Kd.own_blk (IsS153.own_ne HI825.out HO_8.out (by decide))) | (show (Addr.add _ _).block ≠ _; rw [add_block]; exact Kd.own_blk (IsS153.own_ne HI825.out HO_8.out (by decide))) | exact Kd.own_blk (IsS153.own_ne HI825.out HO_8.out (by decide)))
            refine ⟨_, rfl, ?_⟩
            have n0_ := Aside0.mk (Kd.R_mono (Kd.R_keep (IsS153.apart (show IsS153 w _ g825 t822 x826001_5 x826002_5 from by repeat (first | (with_reducible first | exact HI825.out | apply IsS153.alloc | apply IsS153.drewN | apply IsS153.drew | apply IsS153.set_1 | apply IsS153.set_2 | refine IsS153.far ?_ NB825_834.out _) | exact HI825.out)) (by (with_reducible repeat (first | apply Kd.R_alloc | apply Kd.R_drewN | apply Kd.R_drew)); exact HO_8.out) (by decide)) hk (fun _ h => h.2)) (fun _ h => h.1))
            have n1_ := Aside0.mk (KeepBut.blk hk (g' := gb834) (o := .cells #[.int .i64 t829, .int .i64 t830, .int .u32 t831, .int .i64 t832] 78 (0, 0)) (by (with_reducible repeat (first | refine blk_drewN ?_ _ | refine blk_drew ?_ | refine blk_alloc ?_ _)); exact BK834.out) NB834_825.out (by simp))
            have n2_ := Aside0.mk (hb)
            have n3_ := Aside0.mk (hi)
            clear HO_8
            clear BK834
            clear HB
            clear HI825
            have HO_8 := n0_
            have BK834 := n1_
            have HB := n2_
            have HI825 := n3_
            clear n0_ n1_ n2_ n3_
            (try clear hb)
            (try clear hb2)
            (try clear hk)
            (try clear hi)
            refine hK.out _ _ ⟨(blk_cell BK834.out 0).trans rfl, (blk_cell BK834.out 1).trans rfl, (blk_cell BK834.out 2).trans rfl, (blk_cell BK834.out 3).trans rfl, HS4_⟩ (fun hHeld => ?_)
            clear hK K
            refine norm_ (a' := ?_) ?_ ?_
            rotate_left
            · show Act.put _ (some 37) _ = _
              simp only [Act.put, List.setIfInBounds_toArray, List.set_cons_zero, List.set_cons_succ, i64_w, i32_w]
              rfl
            refine pure_ (i := 6) (N := some 38) (v := ?_) (a' := ?_) #[true, true, true, true, true, true, true, false, true, true, false, false, false, false] rfl rfl (any_of HT_.out (by kernel_rfl)) (fun _ _ _ h => h) (Or.inl ⟨by rfl, ?_⟩) ?_ ?_
            rotate_left
            · intro w'
              go_simp
              with_reducible rfl
            rotate_left
            · simp only [Act.put, List.setIfInBounds_toArray, List.set_cons_zero, List.set_cons_succ, i64_w, i32_w]
              rfl
            refine take_ (i := 7) (N := some 39) (v := ?_) (a' := ?_) #[true, true, true, true, true, true, true, true, true, true, false, false, false, false] rfl rfl (take_ofW HT_.out HW_.out (by kernel_rfl)) (fun _ _ _ h => h) (Or.inl ⟨by rfl, ?_⟩) hHeld ?_ ?_
            rotate_left
            · rintro w' ⟨s0, s1, s2, s3, s4⟩
              go_simp
              with_reducible rfl
            rotate_left
            · simp only [Act.put, List.setIfInBounds_toArray, List.set_cons_zero, List.set_cons_succ, i64_w, i32_w]
              rfl
            refine one_ (i := 10) (N := some 42) #[true, true, true, true, true, true, true, true, true, true, true, false, false, false] rfl rfl (one_of HT_.out (by kernel_rfl)) (by decide) (fun K hK => ?_)
            refine goes_ Try.func90 (by kernel_rfl) rfl #[.int .i64 t830] (by rfl) rfl rfl (by (try simp only [List.map_toArray, List.map_cons, List.map_nil]); first | done | rfl | (simp only [List.length_drop, List.length_take]; rfl)) ?_
            with_reducible refine (spec_ClassSize.calls kj5 t830 t845 _ A24.out).mono ?_
            rintro e w' ⟨rfl, ⟨nd, rfl⟩⟩
            refine ⟨_, rfl, ?_⟩
            refine hK.out _ _ ⟨(blk_cell BK834.out 0).trans rfl, (blk_cell BK834.out 1).trans rfl, (blk_cell BK834.out 2).trans rfl, (blk_cell BK834.out 3).trans rfl, hHeld.2.2.2.2⟩ (fun hHeld => ?_)
            clear hK K
            refine norm_ (a' := ?_) ?_ ?_
            rotate_left
            · show Act.put _ (some 42) _ = _
              simp only [Act.put, List.setIfInBounds_toArray, List.set_cons_zero, List.set_cons_succ, i64_w, i32_w]
              rfl
            refine pure_ (i := 11) (N := some 43) (v := ?_) (a' := ?_) #[true, true, true, true, true, true, true, true, true, true, true, true, false, false] rfl rfl (any_of HT_.out (by kernel_rfl)) (fun _ _ _ h => h) (Or.inl ⟨by rfl, ?_⟩) ?_ ?_
            rotate_left
            · intro w'
              go_simp
              with_reducible rfl
            rotate_left
            · simp only [Act.put, List.setIfInBounds_toArray, List.set_cons_zero, List.set_cons_succ, i64_w, i32_w]
              rfl
            refine pure_ (i := 12) (N := some 2) (v := ?_) (a' := ?_) #[true, true, true, true, true, true, true, true, true, true, true, true, true, false] rfl rfl (any_of HT_.out (by kernel_rfl)) (fun _ _ _ h => h) (Or.inl ⟨by rfl, ?_⟩) ?_ ?_
            rotate_left
            · intro w'
              go_simp
              with_reducible rfl
            rotate_left
            · simp only [Act.put, List.setIfInBounds_toArray, List.set_cons_zero, List.set_cons_succ, i64_w, i32_w]
              rfl
            refine pure_ (i := 13) (N := some 3) (v := ?_) (a' := ?_) #[true, true, true, true, true, true, true, true, true, true, true, true, true, true] rfl rfl (any_of HT_.out (by kernel_rfl)) (fun _ _ _ h => h) (Or.inl ⟨by rfl, ?_⟩) ?_ ?_
            rotate_left
            · intro w'
              go_simp
              with_reducible rfl
            rotate_left
            · simp only [Act.put, List.setIfInBounds_toArray, List.set_cons_zero, List.set_cons_succ, i64_w, i32_w]
              rfl
            refine done_ (done_of HT_.out (by kernel_rfl)) ?_
            try go_wp2
            go_ret2
            exact ⟨by first | rfl | (simp only [i64_w, i32_w] <;> rfl) | (simp [errW_none, errW_some] <;> rfl) | (simp [*, errW_none, errW_some] <;> rfl), by repeat (first | (with_reducible first | exact HB.out | apply below_alloc | apply pw_below_drewN | apply below_drew1 | refine below_set ?_ (IsS153.ge HI825.out) | refine below_set ?_ GE834.out) | exact HB.out)⟩
          · rw [if_neg c23] at H
            exact absurd H (by simp)
        · rw [if_neg c22] at H
          exact absurd H (by simp)
      · replace c20 := Bool.eq_false_iff.mpr c20
        subst c20
        rw [if_neg (show ¬ (false = true) by decide)] at H
        replace H := Option.bind_eq_some_iff.mp H
        obtain ⟨⟨t846, t847, t848⟩, A280, H⟩ := H
        try dsimp only at H
        have A28 := Aside0.mk A280
        clear A280
        replace H := Option.bind_eq_some_iff.mp H
        obtain ⟨⟨t849, t850, t851⟩, A290, H⟩ := H
        try dsimp only at H
        have A29 := Aside0.mk A290
        clear A290
        obtain ⟨y852, hy852⟩ : ∃ y_ : List Int, y_ = (([t846, t849] : List Int)) := ⟨_, rfl⟩
        replace H : ((spec_l01Cur_pick.f t822 t850 t851 2).bind fun bt855 => (if 0 ≤ bt855.1 then (if bt855.1 < (y852.length : Int) then (some (t826, rd y852 bt855.1)) else (none)) else (none))) = some (r1, r2) := by first | (rw [hy852]; with_reducible exact H) | (have H2_ := (Option.bind_some _ _).symm.trans H; rw [hy852]; with_reducible exact H2_) | (have H2_ := (Option.bind_some _ _).symm.trans H; with_reducible exact H2_) | with_reducible exact H | (rw [hy852]; exact H) | exact H
        have Ny852 := Aside0.mk hy852
        clear hy852
        replace H := Option.bind_eq_some_iff.mp H
        obtain ⟨⟨t855, t856, t857⟩, A300, H⟩ := H
        try dsimp only at H
        have A30 := Aside0.mk A300
        clear A300
        by_cases c31 : 0 ≤ t855
        · rw [if_pos c31] at H
          have c31b0 : decide (0 ≤ t855) = true := decide_eq_true c31
          clear c31
          by_cases c32 : t855 < (y852.length : Int)
          · rw [if_pos c32] at H
            have c32b0 : decide (t855 < (y852.length : Int)) = true := decide_eq_true c32
            clear c32
            simp only [Option.some.injEq, Prod.mk.injEq] at H
            obtain ⟨rfl, rfl⟩ := H
            try go_wp2
            have pi858 : (0 ≤ (t855 : Int)) = True := eq_true (of_decide_eq_true (by first | (with_reducible assumption) | assumption))
            have qi858 : (t855 < (y852.length : Int)) = True := eq_true (of_decide_eq_true (by first | (with_reducible assumption) | assumption))
            have n0_ := Aside0.mk (Kd.R_drew HO_8.out)
            have n1_ := Aside0.mk (blk_drew BK834.out)
            have n2_ := Aside0.mk (IsS153.drew HI825.out)
            have n3_ := Aside0.mk (below_drew1 HB.out)
            clear HO_8
            clear BK834
            clear HI825
            clear HB
            have HO_8 := n0_
            have BK834 := n1_
            have HI825 := n2_
            have HB := n3_
            clear n0_ n1_ n2_ n3_
            refine start_ (n := 12) (S := fun w' => True) (ds := []) #[false, false, false, false, false, false, false, false, false, false, false, false] (by kernel_rfl) rfl rfl trivial (fun hHeld => ?_); refine with_tabW spec_DrawRelease.tab7 spec_DrawRelease.bits7 (fun HT_ HW_ => ?_)
            generalize wc.drew = w33 at HO_8 BK834 HI825 HB hHeld ⊢
            refine pure_ (i := 0) (N := some 44) (v := ?_) (a' := ?_) #[true, false, false, false, false, false, false, false, false, false, false, false] rfl rfl (any_of HT_.out (by kernel_rfl)) (fun _ _ _ h => h) (Or.inl ⟨by rfl, ?_⟩) ?_ ?_
            rotate_left
            · intro w'
              go_simp
              with_reducible rfl
            rotate_left
            · simp only [Act.put, List.setIfInBounds_toArray, List.set_cons_zero, List.set_cons_succ, i64_w, i32_w]
              rfl
            refine pure_ (i := 1) (N := some 45) (v := ?_) (a' := ?_) #[true, true, false, false, false, false, false, false, false, false, false, false] rfl rfl (any_of HT_.out (by kernel_rfl)) (fun _ _ _ h => h) (Or.inl ⟨by rfl, ?_⟩) ?_ ?_
            rotate_left
            · intro w'
              go_simp
              with_reducible rfl
            rotate_left
            · simp only [Act.put, List.setIfInBounds_toArray, List.set_cons_zero, List.set_cons_succ, i64_w, i32_w]
              rfl
            refine pure_ (i := 3) (N := some 47) (v := ?_) (a' := ?_) #[true, true, false, true, false, false, false, false, false, false, false, false] rfl rfl (any_of HT_.out (by kernel_rfl)) (fun _ _ _ h => h) (Or.inl ⟨by rfl, ?_⟩) ?_ ?_
            rotate_left
            · intro w'
              go_simp
              with_reducible rfl
            rotate_left
            · simp only [Act.put, List.setIfInBounds_toArray, List.set_cons_zero, List.set_cons_succ, i64_w, i32_w]
              rfl
            refine pure_ (i := 6) (N := some 50) (v := ?_) (a' := ?_) #[true, true, false, true, false, false, true, false, false, false, false, false] rfl rfl (any_of HT_.out (by kernel_rfl)) (fun _ _ _ h => h) (Or.inl ⟨by rfl, ?_⟩) ?_ ?_
            rotate_left
            · intro w'
              go_simp
              with_reducible rfl
            rotate_left
            · simp only [Act.put, List.setIfInBounds_toArray, List.set_cons_zero, List.set_cons_succ, i64_w, i32_w]
              rfl
            refine inv_at [2, 4, 5, 7, 8, 9, 10, 11] (fun a0_ b a w' => ∃ (v853 : Value) (adz_v853 : Addr) (m8_ : Value), a = putSel a0_ b [(2, 46, .int .i64 t846), (4, 48, .int .i64 t849), (5, 49, v853), (7, 51, .int .i64 t855), (8, 52, m8_), (9, 53, .int .i64 (rd y852 t855)), (10, 2, .int .u32 t826), (11, 3, .int .i64 (rd y852 t855))] ∧ (Kd.R (Kd.int .i64) 3 w' w.heap.size (fun _ => True) v836 t835) ∧ (w'.heap[gb834]? = some (.cells #[.int .i64 t829, .int .i64 t830, .int .u32 t831, .int .i64 t832] 78 (0, 0))) ∧ (b 2 = false → IsS153 w w' g825 t822 x826001_5 x826002_5) ∧ (Below w.heap.size w w') ∧ (b 2 = true → b 4 = false → IsS153 w w' g825 t822 t847 t848) ∧ (b 4 = true → b 7 = false → IsS153 w w' g825 t822 t850 t851) ∧ (b 5 = true → Kd.R (Kd.int .i64) 3 w' w.heap.size (fun k_ => some k_ ≠ (v836 : Value).ownBlock) v853 y852) ∧ (b 5 = true → ∃ c_, (v853 : Value) = .slice (some adz_v853) y852.length c_) ∧ (b 7 = true → IsS153 w w' g825 t822 t856 t857) ∧ (b 8 = true → (m8_ : Value) = .pointer (some (adz_v853.add (t855).toNat)))) HT_.out HW_.out (by kernel_rfl) (by kernel_rfl) ?_ ?_ ?_
            · exact ⟨.bool false, ⟨0, 0, none⟩, .bool false, by simp only [putSel, Bool.false_eq_true, if_false], HO_8.out, BK834.out, fun _ => HI825.out, HB.out, fun h_ => absurd h_ (by decide), fun h_ => absurd h_ (by decide), fun h_ => absurd h_ (by decide), fun h_ => absurd h_ (by decide), fun h_ => absurd h_ (by decide), fun h_ => absurd h_ (by decide)⟩
            · skip
              clear BK834 HB HI825 HO_8
              refine steps_cons ?_ ?_
              · rintro b a w' ⟨v853, adz_v853, m8_, ha, Q_HO_8, Q_BK834, Q_HI825, Q_HB, Q_HI825_e2, Q_HI825_e4, Q_HO854, Q_HA_HO854, Q_HI825_e7, Q_X8_⟩ hb_ hon hoff
                refine ⟨_, rfl, fun K hK => ?_⟩
                have e45 : a.tmps[45]? = some (.pointer (some ⟨g825, 0, none⟩)) := by rw [ha]; exact (putSel_off rfl).trans rfl
                replace ha := Aside0.mk ha
                have HO_8 := Aside0.mk Q_HO_8
                have BK834 := Aside0.mk Q_BK834
                have HI825 := Aside0.mk (Q_HI825 hb_)
                have HB := Aside0.mk Q_HB
                refine goes_ Try.func113 (by kernel_rfl) rfl #[.pointer (some ⟨g825, 0, none⟩), .int .i64 17] (by rfl) rfl rfl (by first | (simp only [List.map_toArray, List.map_cons, List.map_nil, Act.eval, Array.getD_eq_getD_getElem?, Option.getD_some, e45]; done) | (simp only [List.map_toArray, List.map_cons, List.map_nil, Act.eval, Array.getD_eq_getD_getElem?, Option.getD_some, e45]; rfl)) ?_
                with_reducible refine (spec_l01Cur_pick.calls g825 t822 x826001_5 x826002_5 17 t846 t847 t848 w _ ?side1 ?side2 A28.out).mono ?_
                (case side1 => repeat (first | (with_reducible first | exact HI825.out | apply IsS153.alloc | apply IsS153.drewN | apply IsS153.drew | apply IsS153.set_1 | apply IsS153.set_2 | refine IsS153.far ?_ NB825_834.out _) | exact HI825.out))
                (case side2 => repeat (first | (with_reducible first | exact HB.out | apply below_alloc | apply pw_below_drewN | apply below_drew1 | refine below_set ?_ (IsS153.ge HI825.out) | refine below_set ?_ GE834.out) | exact HB.out))
                rintro e w34 ⟨rfl, hi, hb, hk⟩
                refine ⟨_, rfl, ?_⟩
                have n0_ := Aside0.mk (Kd.R_mono (Kd.R_keep (IsS153.apart (show IsS153 w _ g825 t822 x826001_5 x826002_5 from by repeat (first | (with_reducible first | exact HI825.out | apply IsS153.alloc | apply IsS153.drewN | apply IsS153.drew | apply IsS153.set_1 | apply IsS153.set_2 | refine IsS153.far ?_ NB825_834.out _) | exact HI825.out)) (by (with_reducible repeat (first | apply Kd.R_alloc | apply Kd.R_drewN | apply Kd.R_drew)); exact HO_8.out) (by decide)) hk (fun _ h => h.2)) (fun _ h => h.1))
                have n1_ := Aside0.mk (KeepBut.blk hk (g' := gb834) (o := .cells #[.int .i64 t829, .int .i64 t830, .int .u32 t831, .int .i64 t832] 78 (0, 0)) (by (with_reducible repeat (first | refine blk_drewN ?_ _ | refine blk_drew ?_ | refine blk_alloc ?_ _)); exact BK834.out) NB834_825.out (by simp))
                have n2_ := Aside0.mk (hb)
                have n3_ := Aside0.mk (hi)
                clear HO_8
                clear BK834
                clear HB
                clear HI825
                have HO_8 := n0_
                have BK834 := n1_
                have HB := n2_
                have HI825 := n3_
                clear n0_ n1_ n2_ n3_
                (try clear hb)
                (try clear hb2)
                (try clear hk)
                (try clear hi)
                refine hK.out _ _ ⟨v853, adz_v853, m8_, (by rw [ha.out]; exact putSel_upk 0 hb_ rfl rfl rfl), (by (with_reducible repeat (first | apply Kd.R_alloc | apply Kd.R_drewN | apply Kd.R_drew)); exact HO_8.out), (by (with_reducible repeat (first | refine blk_drewN ?_ _ | refine blk_drew ?_ | refine blk_alloc ?_ _)); exact BK834.out), fun h0_ => absurd ((up_self b 2).symm.trans h0_) (by decide), (by repeat (first | (with_reducible first | exact HB.out | apply below_alloc | apply pw_below_drewN | apply below_drew1 | refine below_set ?_ (IsS153.ge HI825.out) | refine below_set ?_ GE834.out) | exact HB.out)), fun _ _ => (by repeat (first | (with_reducible first | exact HI825.out | apply IsS153.alloc | apply IsS153.drewN | apply IsS153.drew | apply IsS153.set_1 | apply IsS153.set_2 | refine IsS153.far ?_ NB825_834.out _) | exact HI825.out)), fun h0_ _ => absurd ((hoff 4 (by kernel_rfl)).symm.trans h0_) (by decide), fun h0_ => absurd ((hoff 5 (by kernel_rfl)).symm.trans h0_) (by decide), fun h0_ => absurd ((hoff 5 (by kernel_rfl)).symm.trans h0_) (by decide), fun h0_ => absurd ((hoff 7 (by kernel_rfl)).symm.trans h0_) (by decide), fun h0_ => absurd ((hoff 8 (by kernel_rfl)).symm.trans h0_) (by decide)⟩
              refine steps_cons ?_ ?_
              · rintro b a w' ⟨v853, adz_v853, m8_, ha, Q_HO_8, Q_BK834, Q_HI825, Q_HB, Q_HI825_e2, Q_HI825_e4, Q_HO854, Q_HA_HO854, Q_HI825_e7, Q_X8_⟩ hb_ hon hoff
                refine ⟨_, rfl, fun K hK => ?_⟩
                have e47 : a.tmps[47]? = some (.pointer (some ⟨g825, 0, none⟩)) := by rw [ha]; exact (putSel_off rfl).trans rfl
                replace ha := Aside0.mk ha
                have HO_8 := Aside0.mk Q_HO_8
                have BK834 := Aside0.mk Q_BK834
                have HB := Aside0.mk Q_HB
                have HI825 := Aside0.mk (Q_HI825_e2 (hon 2 (by kernel_rfl)) hb_)
                refine goes_ Try.func114 (by kernel_rfl) rfl #[.pointer (some ⟨g825, 0, none⟩)] (by rfl) rfl rfl (by first | (simp only [List.map_toArray, List.map_cons, List.map_nil, Act.eval, Array.getD_eq_getD_getElem?, Option.getD_some, e47]; done) | (simp only [List.map_toArray, List.map_cons, List.map_nil, Act.eval, Array.getD_eq_getD_getElem?, Option.getD_some, e47]; rfl)) ?_
                with_reducible refine (spec_l01Cur_raw.calls g825 t822 t847 t848 t849 t850 t851 w _ ?side1 ?side2 A29.out).mono ?_
                (case side1 => repeat (first | (with_reducible first | exact HI825.out | apply IsS153.alloc | apply IsS153.drewN | apply IsS153.drew | apply IsS153.set_1 | apply IsS153.set_2 | refine IsS153.far ?_ NB825_834.out _) | exact HI825.out))
                (case side2 => repeat (first | (with_reducible first | exact HB.out | apply below_alloc | apply pw_below_drewN | apply below_drew1 | refine below_set ?_ (IsS153.ge HI825.out) | refine below_set ?_ GE834.out) | exact HB.out))
                rintro e w36 ⟨rfl, hi, hb, hk⟩
                refine ⟨_, rfl, ?_⟩
                have n0_ := Aside0.mk (Kd.R_mono (Kd.R_keep (IsS153.apart (show IsS153 w _ g825 t822 t847 t848 from by repeat (first | (with_reducible first | exact HI825.out | apply IsS153.alloc | apply IsS153.drewN | apply IsS153.drew | apply IsS153.set_1 | apply IsS153.set_2 | refine IsS153.far ?_ NB825_834.out _) | exact HI825.out)) (by (with_reducible repeat (first | apply Kd.R_alloc | apply Kd.R_drewN | apply Kd.R_drew)); exact HO_8.out) (by decide)) hk (fun _ h => h.2)) (fun _ h => h.1))
                have n1_ := Aside0.mk (KeepBut.blk hk (g' := gb834) (o := .cells #[.int .i64 t829, .int .i64 t830, .int .u32 t831, .int .i64 t832] 78 (0, 0)) (by (with_reducible repeat (first | refine blk_drewN ?_ _ | refine blk_drew ?_ | refine blk_alloc ?_ _)); exact BK834.out) NB834_825.out (by simp))
                have n2_ := Aside0.mk (hb)
                have n3_ := Aside0.mk (hi)
                clear HO_8
                clear BK834
                clear HB
                clear HI825
                have HO_8 := n0_
                have BK834 := n1_
                have HB := n2_
                have HI825 := n3_
                clear n0_ n1_ n2_ n3_
                (try clear hb)
                (try clear hb2)
                (try clear hk)
                (try clear hi)
                refine hK.out _ _ ⟨v853, adz_v853, m8_, (by rw [ha.out]; exact putSel_upk 1 hb_ rfl rfl rfl), (by (with_reducible repeat (first | apply Kd.R_alloc | apply Kd.R_drewN | apply Kd.R_drew)); exact HO_8.out), (by (with_reducible repeat (first | refine blk_drewN ?_ _ | refine blk_drew ?_ | refine blk_alloc ?_ _)); exact BK834.out), fun h0_ => absurd ((hon 2 (by kernel_rfl)).symm.trans h0_) (by decide), (by repeat (first | (with_reducible first | exact HB.out | apply below_alloc | apply pw_below_drewN | apply below_drew1 | refine below_set ?_ (IsS153.ge HI825.out) | refine below_set ?_ GE834.out) | exact HB.out)), fun _ h1_ => absurd ((up_self b 4).symm.trans h1_) (by decide), fun _ _ => (by repeat (first | (with_reducible first | exact HI825.out | apply IsS153.alloc | apply IsS153.drewN | apply IsS153.drew | apply IsS153.set_1 | apply IsS153.set_2 | refine IsS153.far ?_ NB825_834.out _) | exact HI825.out)), fun h0_ => absurd ((hoff 5 (by kernel_rfl)).symm.trans h0_) (by decide), fun h0_ => absurd ((hoff 5 (by kernel_rfl)).symm.trans h0_) (by decide), fun h0_ => absurd ((hoff 7 (by kernel_rfl)).symm.trans h0_) (by decide), fun h0_ => absurd ((hoff 8 (by kernel_rfl)).symm.trans h0_) (by decide)⟩
              refine steps_cons ?_ ?_
              · rintro b a w' ⟨v853, adz_v853, m8_, ha, Q_HO_8, Q_BK834, Q_HI825, Q_HB, Q_HI825_e2, Q_HI825_e4, Q_HO854, Q_HA_HO854, Q_HI825_e7, Q_X8_⟩ hb_ hon hoff
                refine ⟨_, rfl, fun K hK => ?_⟩
                have e46 : a.tmps[46]? = some (.int .i64 t846) := by rw [ha]; exact putSel_on (e := (2, 46, .int .i64 t846)) 0 rfl rfl (hon 2 (by kernel_rfl)) rfl
                have e48 : a.tmps[48]? = some (.int .i64 t849) := by rw [ha]; exact putSel_on (e := (4, 48, .int .i64 t849)) 1 rfl rfl (hon 4 (by kernel_rfl)) rfl
                replace ha := Aside0.mk ha
                have HO_8 := Aside0.mk Q_HO_8
                have BK834 := Aside0.mk Q_BK834
                have HB := Aside0.mk Q_HB
                refine Kd.R_lit_step (Kd.int .i64) _ 3 ?hg (N := 49) ?hd (xs := ([t846, t849] : List Int)) (inner := [.int .i64 t846, .int .i64 t849]) (ok := fun _ => True) (okp := fun _ => True) ?hr ?hp (fun _ hk => hk) trivial (Below.refl _ _) (Nat.le_refl _) (by simp) ?_; (case hd => rfl); (case hg => rfl); (case hr => first | (go_simp; done) | (go_simp; rfl)); (case hp => exact (Reps.one (show Kd.M (Kd.int .i64) _ _ _ t846 [.int .i64 t846] from rfl) (Reps.one (show Kd.M (Kd.int .i64) _ _ _ t849 [.int .i64 t849] from rfl) (Reps.none _ _))))
                intro v853 w37 ho38 hb hg_ hnew_
                clear hg_ hnew_
                (first | rw [← Ny852.out] at ho38 | (simp only [Int.reduceToNat] at ho38; rw [← Ny852.out] at ho38))
                have n0_ := Aside0.mk (Kd.R_elder' (by (with_reducible repeat (first | apply Kd.R_alloc | apply Kd.R_drewN | apply Kd.R_drew)); exact HO_8.out) (Kd.R_base ho38) hb)
                have n1_ := Aside0.mk (Kd.R_lower (Kd.R_new' ho38 (Kd.R_lt (by (with_reducible repeat (first | apply Kd.R_alloc | apply Kd.R_drewN | apply Kd.R_drew)); exact HO_8.out))) (below_size (by repeat (first | (with_reducible first | exact HB.out | apply below_alloc | apply pw_below_drewN | apply below_drew1 | refine below_set ?_ GE834.out) | exact HB.out))))
                have n2_ := Aside0.mk (blk_below (g := gb834) (o := .cells #[.int .i64 t829, .int .i64 t830, .int .u32 t831, .int .i64 t832] 78 (0, 0)) (by (with_reducible repeat (first | refine blk_drewN ?_ _ | refine blk_drew ?_ | refine blk_alloc ?_ _)); exact BK834.out) hb)
                have n4_ := Aside0.mk (below_step (by repeat (first | (with_reducible first | exact HB.out | apply below_alloc | apply pw_below_drewN | apply below_drew1 | refine below_set ?_ GE834.out) | exact HB.out)) hb)
                have z_HI825_e4 := fun (h0_ : b 4 = true) (h1_ : b 7 = false) => (show IsS153 w w37 g825 t822 t850 t851 from by first | exact (IsS153.below (by repeat (first | (with_reducible first | exact (Q_HI825_e4 h0_ h1_) | apply IsS153.alloc | apply IsS153.drewN | apply IsS153.drew | apply IsS153.set_1 | apply IsS153.set_2 | refine IsS153.far ?_ NB825_834.out _) | exact (Q_HI825_e4 h0_ h1_))) hb))
                have z_HI825_e7 := fun (h0_ : b 7 = true) => (show IsS153 w w37 g825 t822 t856 t857 from by first | exact (IsS153.below (by repeat (first | (with_reducible first | exact (Q_HI825_e7 h0_) | apply IsS153.alloc | apply IsS153.drewN | apply IsS153.drew | apply IsS153.set_1 | apply IsS153.set_2 | refine IsS153.far ?_ NB825_834.out _) | exact (Q_HI825_e7 h0_))) hb))
                clear HO_8
                clear BK834
                clear HB
                have HO_8 := n0_
                have HO854 := n1_
                have BK834 := n2_
                have HB := n4_
                clear n0_ n1_ n2_ n4_
                clear hb ho38
                obtain ⟨Ao39, co39, eo39⟩ := Kd.R_slice HO854.out
                subst eo39
                obtain ⟨ado39, fo39, _⟩ := Kd.at_int (Kd.R_reads' HO854.out).2.2 0 (by decide) (by rw [Ny852.out]; simp)
                cases fo39
                refine hK.out _ _ ⟨.slice (some ado39) y852.length co39, ado39, m8_, (by rw [ha.out]; exact putSel_upk 2 hb_ rfl rfl rfl), (by (with_reducible repeat (first | apply Kd.R_alloc | apply Kd.R_drewN | apply Kd.R_drew)); exact Kd.R_mono HO_8.out (fun _ _ => trivial)), (by (with_reducible repeat (first | refine blk_drewN ?_ _ | refine blk_drew ?_ | refine blk_alloc ?_ _)); exact BK834.out), fun h0_ => absurd ((hon 2 (by kernel_rfl)).symm.trans h0_) (by decide), (by repeat (first | (with_reducible first | exact HB.out | apply below_alloc | apply pw_below_drewN | apply below_drew1 | refine below_set ?_ GE834.out) | exact HB.out)), fun _ h1_ => absurd ((hon 4 (by kernel_rfl)).symm.trans h1_) (by decide), z_HI825_e4, fun _ => (by (with_reducible repeat (first | apply Kd.R_alloc | apply Kd.R_drewN | apply Kd.R_drew)); exact Kd.R_mono HO854.out (fun _ hk => hk.2)), fun _ => ⟨_, rfl⟩, z_HI825_e7, fun h0_ => absurd ((hoff 8 (by kernel_rfl)).symm.trans h0_) (by decide)⟩
              refine steps_cons ?_ ?_
              · rintro b a w' ⟨v853, adz_v853, m8_, ha, Q_HO_8, Q_BK834, Q_HI825, Q_HB, Q_HI825_e2, Q_HI825_e4, Q_HO854, Q_HA_HO854, Q_HI825_e7, Q_X8_⟩ hb_ hon hoff
                refine ⟨_, rfl, fun K hK => ?_⟩
                have e50 : a.tmps[50]? = some (.pointer (some ⟨g825, 0, none⟩)) := by rw [ha]; exact (putSel_off rfl).trans rfl
                replace ha := Aside0.mk ha
                have HO_8 := Aside0.mk Q_HO_8
                have BK834 := Aside0.mk Q_BK834
                have HB := Aside0.mk Q_HB
                have HI825 := Aside0.mk (Q_HI825_e4 (hon 4 (by kernel_rfl)) hb_)
                refine goes_ Try.func113 (by kernel_rfl) rfl #[.pointer (some ⟨g825, 0, none⟩), .int .i64 2] (by rfl) rfl rfl (by first | (simp only [List.map_toArray, List.map_cons, List.map_nil, Act.eval, Array.getD_eq_getD_getElem?, Option.getD_some, e50]; done) | (simp only [List.map_toArray, List.map_cons, List.map_nil, Act.eval, Array.getD_eq_getD_getElem?, Option.getD_some, e50]; rfl)) ?_
                with_reducible refine (spec_l01Cur_pick.calls g825 t822 t850 t851 2 t855 t856 t857 w _ ?side1 ?side2 A30.out).mono ?_
                (case side1 => repeat (first | (with_reducible first | exact HI825.out | apply IsS153.alloc | apply IsS153.drewN | apply IsS153.drew | apply IsS153.set_1 | apply IsS153.set_2 | refine IsS153.far ?_ NB825_834.out _) | exact HI825.out))
                (case side2 => repeat (first | (with_reducible first | exact HB.out | apply below_alloc | apply pw_below_drewN | apply below_drew1 | refine below_set ?_ (IsS153.ge HI825.out) | refine below_set ?_ GE834.out) | exact HB.out))
                rintro e w37 ⟨rfl, hi, hb, hk⟩
                refine ⟨_, rfl, ?_⟩
                have n0_ := Aside0.mk (Kd.R_mono (Kd.R_keep (IsS153.apart (show IsS153 w _ g825 t822 t850 t851 from by repeat (first | (with_reducible first | exact HI825.out | apply IsS153.alloc | apply IsS153.drewN | apply IsS153.drew | apply IsS153.set_1 | apply IsS153.set_2 | refine IsS153.far ?_ NB825_834.out _) | exact HI825.out)) (by (with_reducible repeat (first | apply Kd.R_alloc | apply Kd.R_drewN | apply Kd.R_drew)); exact HO_8.out) (by decide)) hk (fun _ h => h.2)) (fun _ h => h.1))
                have n1_ := Aside0.mk (KeepBut.blk hk (g' := gb834) (o := .cells #[.int .i64 t829, .int .i64 t830, .int .u32 t831, .int .i64 t832] 78 (0, 0)) (by (with_reducible repeat (first | refine blk_drewN ?_ _ | refine blk_drew ?_ | refine blk_alloc ?_ _)); exact BK834.out) NB834_825.out (by simp))
                have n2_ := Aside0.mk (hb)
                have n3_ := Aside0.mk (hi)
                have z_HO854 := fun (h0_ : b 5 = true) => (show Kd.R (Kd.int .i64) 3 w37 w.heap.size (fun k_ => some k_ ≠ (v836 : Value).ownBlock) v853 y852 from by first | exact (Kd.R_mono (Kd.R_keep (IsS153.apart (show IsS153 w _ g825 t822 t850 t851 from by repeat (first | (with_reducible first | exact HI825.out | apply IsS153.alloc | apply IsS153.drewN | apply IsS153.drew | apply IsS153.set_1 | apply IsS153.set_2 | refine IsS153.far ?_ NB825_834.out _) | exact HI825.out)) (by (with_reducible repeat (first | apply Kd.R_alloc | apply Kd.R_drewN | apply Kd.R_drew)); exact (Q_HO854 h0_)) (by decide)) hk (fun _ h => h.2)) (fun _ h => h.1)) | exact Kd.R_mono (Kd.R_mono (Kd.R_keep (IsS153.apart (show IsS153 w _ g825 t822 t850 t851 from by repeat (first | (with_reducible first | exact HI825.out | apply IsS153.alloc | apply IsS153.drewN | apply IsS153.drew | apply IsS153.set_1 | apply IsS153.set_2 | refine IsS153.far ?_ NB825_834.out _) | exact HI825.out)) (by (with_reducible repeat (first | apply Kd.R_alloc | apply Kd.R_drewN | apply Kd.R_drew)); exact (Q_HO854 h0_)) (by decide)) hk (fun _ h => h.2)) (fun _ h => h.1)) (fun _ h_ => by first | trivial | exact h_ | exact h_.1))
                clear HO_8
                clear BK834
                clear HB
                clear HI825
                have HO_8 := n0_
                have BK834 := n1_
                have HB := n2_
                have HI825 := n3_
                clear n0_ n1_ n2_ n3_
                (try clear hb)
                (try clear hb2)
                (try clear hk)
                (try clear hi)
                refine hK.out _ _ ⟨v853, adz_v853, m8_, (by rw [ha.out]; exact putSel_upk 3 hb_ rfl rfl rfl), (by (with_reducible repeat (first | apply Kd.R_alloc | apply Kd.R_drewN | apply Kd.R_drew)); exact HO_8.out), (by (with_reducible repeat (first | refine blk_drewN ?_ _ | refine blk_drew ?_ | refine blk_alloc ?_ _)); exact BK834.out), fun h0_ => absurd ((hon 2 (by kernel_rfl)).symm.trans h0_) (by decide), (by repeat (first | (with_reducible first | exact HB.out | apply below_alloc | apply pw_below_drewN | apply below_drew1 | refine below_set ?_ (IsS153.ge HI825.out) | refine below_set ?_ GE834.out) | exact HB.out)), fun _ h1_ => absurd ((hon 4 (by kernel_rfl)).symm.trans h1_) (by decide), fun _ h1_ => absurd ((up_self b 7).symm.trans h1_) (by decide), z_HO854, Q_HA_HO854, fun _ => (by repeat (first | (with_reducible first | exact HI825.out | apply IsS153.alloc | apply IsS153.drewN | apply IsS153.drew | apply IsS153.set_1 | apply IsS153.set_2 | refine IsS153.far ?_ NB825_834.out _) | exact HI825.out)), fun h0_ => absurd ((hoff 8 (by kernel_rfl)).symm.trans h0_) (by decide)⟩
              refine steps_cons ?_ ?_
              · rintro b a w' ⟨v853, adz_v853, m8_, ha, Q_HO_8, Q_BK834, Q_HI825, Q_HB, Q_HI825_e2, Q_HI825_e4, Q_HO854, Q_HA_HO854, Q_HI825_e7, Q_X8_⟩ hb_ hon hoff
                refine ⟨_, rfl, fun K hK => ?_⟩
                have e49 : a.tmps[49]? = some (v853) := by rw [ha]; exact putSel_on (e := (5, 49, v853)) 2 rfl rfl (hon 5 (by kernel_rfl)) rfl
                have e51 : a.tmps[51]? = some (.int .i64 t855) := by rw [ha]; exact putSel_on (e := (7, 51, .int .i64 t855)) 3 rfl rfl (hon 7 (by kernel_rfl)) rfl
                replace ha := Aside0.mk ha
                have HO_8 := Aside0.mk Q_HO_8
                have BK834 := Aside0.mk Q_BK834
                have HB := Aside0.mk Q_HB
                have HO854 := Aside0.mk (Q_HO854 (hon 5 (by kernel_rfl)))
                have HA_HO854 := Aside0.mk (Q_HA_HO854 (hon 5 (by kernel_rfl)))
                have HI825 := Aside0.mk (Q_HI825_e7 (hon 7 (by kernel_rfl)))
                obtain ⟨c_, hv_⟩ := HA_HO854.out
                rw [hv_] at e49
                refine value_ (w1 := w') (v := .pointer (some (adz_v853.add (t855).toNat))) (by rfl) rfl ?_ ?_
                · go_simp
                  (try simp only [i64_w])
                  try rfl
                refine hK.out _ _ ⟨v853, adz_v853, (.pointer (some (adz_v853.add (t855).toNat))), (by rw [ha.out]; exact putSel_upk 4 hb_ rfl rfl rfl), Q_HO_8, Q_BK834, fun h0_ => absurd ((hon 2 (by kernel_rfl)).symm.trans h0_) (by decide), Q_HB, fun _ h1_ => absurd ((hon 4 (by kernel_rfl)).symm.trans h1_) (by decide), fun _ h1_ => absurd ((hon 7 (by kernel_rfl)).symm.trans h1_) (by decide), Q_HO854, Q_HA_HO854, Q_HI825_e7, fun _ => rfl⟩
              refine steps_cons ?_ ?_
              · rintro b a w' ⟨v853, adz_v853, m8_, ha, Q_HO_8, Q_BK834, Q_HI825, Q_HB, Q_HI825_e2, Q_HI825_e4, Q_HO854, Q_HA_HO854, Q_HI825_e7, Q_X8_⟩ hb_ hon hoff
                refine ⟨_, rfl, fun K hK => ?_⟩
                have e52 : a.tmps[52]? = some (m8_) := by rw [ha]; exact putSel_on (e := (8, 52, m8_)) 4 rfl rfl (hon 8 (by kernel_rfl)) rfl
                rw [Q_X8_ (hon 8 (by kernel_rfl))] at e52
                replace ha := Aside0.mk ha
                have HO_8 := Aside0.mk Q_HO_8
                have BK834 := Aside0.mk Q_BK834
                have HB := Aside0.mk Q_HB
                have HO854 := Aside0.mk (Q_HO854 (hon 5 (by kernel_rfl)))
                have HA_HO854 := Aside0.mk (Q_HA_HO854 (hon 5 (by kernel_rfl)))
                have HI825 := Aside0.mk (Q_HI825_e7 (hon 7 (by kernel_rfl)))
                obtain ⟨c_, hv_⟩ := HA_HO854.out
                have hF_ := HO854.out
                rw [hv_] at hF_
                obtain ⟨ad_, ea_, hx_⟩ := Kd.at_int (Kd.R_reads' hF_).2.2 t855 (of_eq_true pi858) (of_eq_true qi858)
                cases ea_
                refine value_ (w1 := w') (v := .int .i64 (rd y852 t855)) (by rfl) rfl ?_ ?_
                · go_simp
                  (try simp only [i64_w])
                  try rfl
                refine hK.out _ _ ⟨v853, adz_v853, m8_, (by rw [ha.out]; exact putSel_upk 5 hb_ rfl rfl rfl), Q_HO_8, Q_BK834, fun h0_ => absurd ((hon 2 (by kernel_rfl)).symm.trans h0_) (by decide), Q_HB, fun _ h1_ => absurd ((hon 4 (by kernel_rfl)).symm.trans h1_) (by decide), fun _ h1_ => absurd ((hon 7 (by kernel_rfl)).symm.trans h1_) (by decide), Q_HO854, Q_HA_HO854, Q_HI825_e7, Q_X8_⟩
              refine steps_cons ?_ ?_
              · rintro b a w' ⟨v853, adz_v853, m8_, ha, Q_HO_8, Q_BK834, Q_HI825, Q_HB, Q_HI825_e2, Q_HI825_e4, Q_HO854, Q_HA_HO854, Q_HI825_e7, Q_X8_⟩ hb_ hon hoff
                refine ⟨_, rfl, fun K hK => ?_⟩
                have e44 : a.tmps[44]? = some (.int .u32 t826) := by rw [ha]; exact (putSel_off rfl).trans rfl
                replace ha := Aside0.mk ha
                have HO_8 := Aside0.mk Q_HO_8
                have BK834 := Aside0.mk Q_BK834
                have HB := Aside0.mk Q_HB
                have HI825 := Aside0.mk (Q_HI825_e7 (hon 7 (by kernel_rfl)))
                refine value_ (w1 := w') (v := .int .u32 t826) (by rfl) rfl ?_ ?_
                · go_simp
                  (try simp only [i64_w])
                  try rfl
                refine hK.out _ _ ⟨v853, adz_v853, m8_, (by rw [ha.out]; exact putSel_upk 6 hb_ rfl rfl rfl), Q_HO_8, Q_BK834, fun h0_ => absurd ((hon 2 (by kernel_rfl)).symm.trans h0_) (by decide), Q_HB, fun _ h1_ => absurd ((hon 4 (by kernel_rfl)).symm.trans h1_) (by decide), fun _ h1_ => absurd ((hon 7 (by kernel_rfl)).symm.trans h1_) (by decide), Q_HO854, Q_HA_HO854, Q_HI825_e7, Q_X8_⟩
              refine steps_cons ?_ ?_
              · rintro b a w' ⟨v853, adz_v853, m8_, ha, Q_HO_8, Q_BK834, Q_HI825, Q_HB, Q_HI825_e2, Q_HI825_e4, Q_HO854, Q_HA_HO854, Q_HI825_e7, Q_X8_⟩ hb_ hon hoff
                refine ⟨_, rfl, fun K hK => ?_⟩
                have e53 : a.tmps[53]? = some (.int .i64 (rd y852 t855)) := by rw [ha]; exact putSel_on (e := (9, 53, .int .i64 (rd y852 t855))) 5 rfl rfl (hon 9 (by kernel_rfl)) rfl
                replace ha := Aside0.mk ha
                have HO_8 := Aside0.mk Q_HO_8
                have BK834 := Aside0.mk Q_BK834
                have HB := Aside0.mk Q_HB
                have HO854 := Aside0.mk (Q_HO854 (hon 5 (by kernel_rfl)))
                have HA_HO854 := Aside0.mk (Q_HA_HO854 (hon 5 (by kernel_rfl)))
                have HI825 := Aside0.mk (Q_HI825_e7 (hon 7 (by kernel_rfl)))
                refine value_ (w1 := w') (v := .int .i64 (rd y852 t855)) (by rfl) rfl ?_ ?_
                · go_simp
                  (try simp only [i64_w])
                  try rfl
                refine hK.out _ _ ⟨v853, adz_v853, m8_, (by rw [ha.out]; exact putSel_upk 7 hb_ rfl rfl rfl), Q_HO_8, Q_BK834, fun h0_ => absurd ((hon 2 (by kernel_rfl)).symm.trans h0_) (by decide), Q_HB, fun _ h1_ => absurd ((hon 4 (by kernel_rfl)).symm.trans h1_) (by decide), fun _ h1_ => absurd ((hon 7 (by kernel_rfl)).symm.trans h1_) (by decide), Q_HO854, Q_HA_HO854, Q_HI825_e7, Q_X8_⟩
              exact steps_nil
            rintro b a w40 hall ⟨v853, adz_v853, m8_, ha, Q_HO_8, Q_BK834, Q_HI825, Q_HB, Q_HI825_e2, Q_HI825_e4, Q_HO854, Q_HA_HO854, Q_HI825_e7, Q_X8_⟩
            clear BK834 HB HI825 HO_8
            have hb2_ := hall 2 (by kernel_rfl)
            have hb4_ := hall 4 (by kernel_rfl)
            have hb5_ := hall 5 (by kernel_rfl)
            have hb7_ := hall 7 (by kernel_rfl)
            have hb8_ := hall 8 (by kernel_rfl)
            have hb9_ := hall 9 (by kernel_rfl)
            have hb10_ := hall 10 (by kernel_rfl)
            have hb11_ := hall 11 (by kernel_rfl)
            subst ha
            obtain rfl := Q_X8_ hb8_
            simp only [putSel, hb2_, hb4_, hb5_, hb7_, hb8_, hb9_, hb10_, hb11_, if_true, Act.put, List.setIfInBounds_toArray, List.set_cons_zero, List.set_cons_succ]
            have HO_8 := Aside0.mk Q_HO_8
            clear Q_HO_8
            have BK834 := Aside0.mk Q_BK834
            clear Q_BK834
            clear Q_HI825
            have HB := Aside0.mk Q_HB
            clear Q_HB
            clear Q_HI825_e2
            clear Q_HI825_e4
            have HO854 := Aside0.mk (Q_HO854 hb5_)
            clear Q_HO854
            have HA_HO854 := Aside0.mk (Q_HA_HO854 hb5_)
            clear Q_HA_HO854
            have HI825 := Aside0.mk (Q_HI825_e7 hb7_)
            clear Q_HI825_e7
            clear hall hb2_ hb4_ hb5_ hb7_ hb8_ hb9_ hb10_ hb11_
            obtain ⟨co41, eo41⟩ := HA_HO854.out
            clear HA_HO854
            subst eo41
            try go_wp2
            go_ret2
            exact ⟨by first | rfl | (simp only [i64_w, i32_w] <;> rfl) | (simp [errW_none, errW_some] <;> rfl) | (simp [*, errW_none, errW_some] <;> rfl), by repeat (first | (with_reducible first | exact HB.out | apply below_alloc | apply pw_below_drewN | apply below_drew1 | refine below_set ?_ (IsS153.ge HI825.out) | refine below_set ?_ GE834.out) | exact HB.out)⟩
          · rw [if_neg c32] at H
            exact absurd H (by simp)
        · rw [if_neg c31] at H
          exact absurd H (by simp)

end Go.Proofs.Ytmnjppfebaeoiaa.PC1
