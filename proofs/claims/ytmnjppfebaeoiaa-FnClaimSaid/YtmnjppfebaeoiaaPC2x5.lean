/- What functions of the program compute, each as a Lean function, and that the run comes to just that. Conditions: none. -/
import Derived.Test.YtmnjppfebaeoiaaPC2x0
import Derived.Test.YtmnjppfebaeoiaaPC2x1
import Derived.Test.YtmnjppfebaeoiaaPC2x4
import Derived.Test.YtmnjppfebaeoiaaPC2x2
namespace Go.Proofs.Ytmnjppfebaeoiaa.PC2
open Go.RowKit Go.Proofs.YtmnjppfebaeoiaaW.PrintWords Go.Proofs.YtmnjppfebaeoiaaW.PrintLast Go.Proofs.YtmnjppfebaeoiaaW.PrintMore
attribute [local go_sem] max2_int min2_int max_two min_two max_three min_three max_four min_four   -- for this text's walks alone
set_option linter.unusedVariables false
set_option linter.unusedSimpArgs false

/-! ### spec_l01Cur_classFor: function 124 -/
def spec_l01Cur_classFor.j0 : Nat → Bool → List Int → Int → Int → Int → Int → Int → Int → Option (Int × Int × Int)
 | 0, _, _, _, _, _, _, _, _ => none
 | k + 1, x16, x1000, x1001, x1002, x1127000, x1127001, x1127002, x1127003 => if x16 = true then (some (x1127001, x1001, x1002)) else ((spec_l01Cur_pick.f x1000 x1001 x1002 5).bind fun bt1130 => ((spec_l01Cur_pick.f x1000 bt1130.2.1 bt1130.2.2 5).bind fun bt1133 => ((spec_l01Cur_raw.f x1000 bt1133.2.1 bt1133.2.2).bind fun bt1136 => ((some (([bt1130.1, bt1133.1, 5, bt1136.1] : List Int) : List Int)).bind fun y1139 => ((spec_l01Cur_pick.f x1000 bt1136.2.1 bt1136.2.2 4).bind fun bt1142 => (if 0 ≤ bt1142.1 then (if bt1142.1 < (y1139.length : Int) then (some (rd y1139 bt1142.1, bt1142.2.1, bt1142.2.2)) else (none)) else (none)))))))
def spec_l01Cur_classFor.f (k : Nat) (s0_0 : List Int) (s0_1 : Int) (s0_2 : Int) (a1 : Int) : Option (Int × Int × Int) := (spec_CtlRead.f k a1).bind fun bt1121 => (if bt1121.2.2.2.2 = true then ((spec_l01Cur_once.f s0_0 s0_1 s0_2 2).bind fun bt1127 => (spec_l01Cur_classFor.j0 k bt1127.1 s0_0 bt1127.2.1 bt1127.2.2 bt1121.1 bt1121.2.1 bt1121.2.2.1 bt1121.2.2.2.1)) else (spec_l01Cur_classFor.j0 k false s0_0 s0_1 s0_2 bt1121.1 bt1121.2.1 bt1121.2.2.1 bt1121.2.2.2.1))
theorem spec_l01Cur_classFor.mono_l : ∀ k, (∀ y0 y1 y2 y3 y4 y5 y6 y7, LeO (spec_l01Cur_classFor.j0 k y0 y1 y2 y3 y4 y5 y6 y7) (spec_l01Cur_classFor.j0 (k + 1) y0 y1 y2 y3 y4 y5 y6 y7))
 | 0 => fun _ _ _ _ _ _ _ _ r h => by simp [spec_l01Cur_classFor.j0] at h
 | k + 1 => by
  have ih0 := spec_l01Cur_classFor.mono_l k
  ·intro y0 y1 y2 y3 y4 y5 y6 y7
   unfold spec_l01Cur_classFor.j0
   repeat' first
   | (with_reducible exact ih0 _ _ _ _ _ _ _ _)
   | (with_reducible exact spec_CtlRead.mono _ _)
   | (with_reducible exact LeO.refl _)
   | (with_reducible exact LeO.none _)
   | (with_reducible refine LeO.ite ?_ ?_)
   | (with_reducible refine LeO.bind ?_ (fun _ => ?_))
   | exact ih0 _ _ _ _ _ _ _ _
   | exact spec_CtlRead.mono _ _
   | exact LeO.none _
   | refine LeO.ite ?_ ?_
   | refine LeO.bind ?_ (fun _ => ?_)
theorem spec_l01Cur_classFor.mono : ∀ a0 a1 a2 a3 k, LeO (spec_l01Cur_classFor.f k a0 a1 a2 a3) (spec_l01Cur_classFor.f (k + 1) a0 a1 a2 a3) := by
 intro a0 a1 a2 a3 k
 have ih0 := spec_l01Cur_classFor.mono_l k
 unfold spec_l01Cur_classFor.f
 repeat' first
   | (with_reducible exact ih0 _ _ _ _ _ _ _ _)
   | (with_reducible exact spec_CtlRead.mono _ _)
   | (with_reducible exact LeO.refl _)
   | (with_reducible exact LeO.none _)
   | (with_reducible refine LeO.ite ?_ ?_)
   | (with_reducible refine LeO.bind ?_ (fun _ => ?_))
   | exact ih0 _ _ _ _ _ _ _ _
   | exact spec_CtlRead.mono _ _
   | exact LeO.none _
   | refine LeO.ite ?_ ?_
   | refine LeO.bind ?_ (fun _ => ?_)
set_option maxHeartbeats 8000000 in
set_option maxRecDepth 100000 in
theorem spec_l01Cur_classFor.calls (k : Nat) (g : Nat) (s0_0 : List Int) (s0_1 : Int) (s0_2 : Int) (a1 : Int) (r1 : Int) (r2 : Int) (r3 : Int) (w0 w : World) (hI : IsS153 w0 w g s0_0 s0_1 s0_2) (hB : Below w0.heap.size w0 w) (h : spec_l01Cur_classFor.f k s0_0 s0_1 s0_2 a1 = some (r1, r2, r3)) :
  Calls Try.prog 124 #[.pointer (some ⟨g, 0, none⟩), .int .u32 a1] w fun e w' => e = .returned (.int .i64 r1) ∧ IsS153 w0 w' g s0_0 r2 r3 ∧ Below w0.heap.size w0 w' ∧ KeepBut w w' g none := by
 have hu78 := Try.underlying78
 have HI0 := Aside0.mk hI
 have HK := Aside0.mk (KeepBut.refl w g none)
 have HL := Aside0.mk hB.size
 clear hI
 have HW0 := Aside0.mk hB.size
 have HB := Aside0.mk hB
 clear hB
 unfold spec_l01Cur_classFor.f at h
 have H := h
 clear h
 replace H := Option.bind_eq_some_iff.mp H
 obtain ⟨⟨t1121, t1122, t1123, t1124, t1125⟩, A30, H⟩ := H
 try dsimp only at H
 have A3 := Aside0.mk A30
 clear A30
 have HC4 := Aside0.mk H
 clear H
 go_enter Try.func124, Try.ntmps124
 go_upto_region 2 with (first | ((with_reducible refine gate_callee (f := 85) rfl ?_); refine goesL_ (some 9) rfl rfl Try.func85 (by kernel_rfl) rfl #[.int .u32 a1] rfl (by (try simp only [List.map_toArray, List.map_cons, List.map_nil]); first | done | rfl | (simp only [List.length_drop, List.length_take]; rfl)) ?_; (with_reducible refine (spec_CtlRead.calls k a1 t1121 t1122 t1123 t1124 t1125 _ A3.out).mono ?_); rintro e w5 ⟨rfl, hb⟩; refine ⟨_, rfl, ?_⟩; have n0_ := Aside0.mk (IsS153.below (by repeat (first | (with_reducible first | exact HI0.out | apply IsS153.alloc | apply IsS153.drewN | apply IsS153.drew | apply IsS153.set_1 | apply IsS153.set_2) | exact HI0.out)) hb); have n1_ := Aside0.mk (KeepBut.trans (by repeat (first | (with_reducible first | exact HK.out | apply KeepBut.set_ | apply keep_drewN | apply keep_drew | apply keep_alloc) | exact HK.out)) (KeepBut.of_below hb g none) (.inl rfl)); have n2_ := Aside0.mk (below_step (by repeat (first | (with_reducible first | exact HB.out | apply below_alloc | apply pw_below_drewN | apply below_drew1 | refine below_set ?_ (IsS153.ge HI0.out)) | exact HB.out)) hb); clear HI0; clear HK; clear HB; have HI0 := n0_; have HK := n1_; have HB := n2_; clear n0_ n1_ n2_; (try clear hb); (try clear hb2); (try clear hk); (try clear hi)) | ((with_reducible refine gate_dst (N := 5) rfl ?_); refine box_event ?hg (N := 5) ?hd (cs := #[.int .i64 0, .int .i64 0, .int .u32 0, .int .i64 0]) (t := 78) ?hr ?_; (case hd => rfl); (case hg => rfl); (case hr => first | (go_simp; done) | (go_simp; rfl)); intro gb1126 hg w6 hbox hb; have n0_ := Aside0.mk (IsS153.below (by repeat (first | (with_reducible first | exact HI0.out | apply IsS153.alloc | apply IsS153.drewN | apply IsS153.drew | apply IsS153.set_1 | apply IsS153.set_2) | exact HI0.out)) hb); have n1_ := Aside0.mk (KeepBut.trans (by repeat (first | (with_reducible first | exact HK.out | apply KeepBut.set_ | apply keep_drewN | apply keep_drew | apply keep_alloc) | exact HK.out)) (KeepBut.of_below hb g none) (.inl rfl)); have n2_ := Aside0.mk (below_step (by repeat (first | (with_reducible first | exact HB.out | apply below_alloc | apply pw_below_drewN | apply below_drew1 | refine below_set ?_ (IsS153.ge HI0.out)) | exact HB.out)) hb); have n3_ := Aside0.mk (hbox); have n4_ := Aside0.mk ((by rw [hg]; exact (keep_size (w := w) (g := g) (row := none) (by repeat (first | (with_reducible first | exact HK.out | apply KeepBut.set_ | apply keep_drewN | apply keep_drew | apply keep_alloc) | exact HK.out))) : w.heap.size ≤ gb1126)); have n5_ := Aside0.mk ((Nat.le_trans HW0.out (by rw [hg]; exact (keep_size (w := w) (g := g) (row := none) (by repeat (first | (with_reducible first | exact HK.out | apply KeepBut.set_ | apply keep_drewN | apply keep_drew | apply keep_alloc) | exact HK.out))) : w.heap.size ≤ gb1126) : w0.heap.size ≤ gb1126)); have n6_ := Aside0.mk ((by rw [hg]; exact Nat.ne_of_lt (IsS153.lt (show IsS153 w0 _ g s0_0 s0_1 s0_2 from by repeat (first | (with_reducible first | exact HI0.out | apply IsS153.alloc | apply IsS153.drewN | apply IsS153.drew | apply IsS153.set_1 | apply IsS153.set_2) | exact HI0.out))) : g ≠ gb1126)); have n7_ := Aside0.mk ((by rw [hg]; exact Nat.ne_of_gt (IsS153.lt (show IsS153 w0 _ g s0_0 s0_1 s0_2 from by repeat (first | (with_reducible first | exact HI0.out | apply IsS153.alloc | apply IsS153.drewN | apply IsS153.drew | apply IsS153.set_1 | apply IsS153.set_2) | exact HI0.out))) : gb1126 ≠ g)); clear HI0; clear HK; clear HB; have HI0 := n0_; have HK := n1_; have HB := n2_; have BK1126 := n3_; have GW1126 := n4_; have GE1126 := n5_; have NB0_1126 := n6_; have NB1126_0 := n7_; clear n0_ n1_ n2_ n3_ n4_ n5_ n6_ n7_; clear hb hbox hg; have hnb7 := NB1126_0.out; have hnc7 := NB0_1126.out; have hcz8_0 : w6.cell? ⟨gb1126, 0, none⟩ = some (.int .i64 0) := (blk_cell BK1126.out 0).trans rfl; have hcz8_1 : w6.cell? ⟨gb1126, 1, none⟩ = some (.int .i64 0) := (blk_cell BK1126.out 1).trans rfl; have hcz8_2 : w6.cell? ⟨gb1126, 2, none⟩ = some (.int .u32 0) := (blk_cell BK1126.out 2).trans rfl; have hcz8_3 : w6.cell? ⟨gb1126, 3, none⟩ = some (.int .i64 0) := (blk_cell BK1126.out 3).trans rfl; have hfz8_0 := blk_frozen BK1126.out 0; have hfz8_1 := blk_frozen BK1126.out 1; have hfz8_2 := blk_frozen BK1126.out 2; have hfz8_3 := blk_frozen BK1126.out 3))
 (try simp only [Act.put, List.setIfInBounds_toArray, List.set_cons_zero, List.set_cons_succ])
 go_cut [16] (fun v16 wc => ∃ (kq : Nat) (x16_3 : Bool) (x1001_3 : Int) (x1002_3 : Int), v16 = .bool x16_3 ∧ Aside0 (spec_l01Cur_classFor.j0 kq x16_3 s0_0 x1001_3 x1002_3 t1121 t1122 t1123 t1124 = some (r1, r2, r3)) ∧ Aside0 (kq ≤ k) ∧ Aside0 (wc.heap[gb1126]? = some (.cells #[.int .i64 t1121, .int .i64 t1122, .int .u32 t1123, .int .i64 t1124] 78 (0, 0))) ∧ Aside0 (IsS153 w0 wc g s0_0 x1001_3 x1002_3) ∧ Aside0 (KeepBut w wc g none) ∧ Aside0 (Below w0.heap.size w0 wc))
 case first =>
  have H := HC4.out
  clear HC4
  by_cases c9 : t1125 = true
  ·subst c9
   (try simp only [Bool.not_true, Bool.not_false])
   rw [if_pos rfl] at H
   replace H := Option.bind_eq_some_iff.mp H
   obtain ⟨⟨t1127, t1128, t1129⟩, A100, H⟩ := H
   try dsimp only at H
   have A10 := Aside0.mk A100
   clear A100
   have H' := Aside0.mk H
   clear H
   go_wp2_with (first | (go_at_call 112; (with_reducible refine (spec_l01Cur_once.calls g s0_0 s0_1 s0_2 2 t1127 t1128 t1129 w0 _ ?side1 ?side2 A10.out).mono ?_); (case side1 => repeat (first | (with_reducible first | exact HI0.out | apply IsS153.alloc | apply IsS153.drewN | apply IsS153.drew | apply IsS153.set_1 | apply IsS153.set_2 | refine IsS153.far ?_ NB0_1126.out _) | exact HI0.out)); (case side2 => repeat (first | (with_reducible first | exact HB.out | apply below_alloc | apply pw_below_drewN | apply below_drew1 | refine below_set ?_ (IsS153.ge HI0.out) | refine below_set ?_ GE1126.out) | exact HB.out)); rintro e w11 ⟨rfl, hi, hb, hk⟩; have n0_ := Aside0.mk (KeepBut.blk hk (g' := gb1126) (o := .cells #[.int .i64 t1121, .int .i64 t1122, .int .u32 t1123, .int .i64 t1124] 78 (0, 0)) (by (with_reducible repeat (first | refine blk_drewN ?_ _ | refine blk_drew ?_ | refine blk_alloc ?_ _)); refine blk_put (cs := #[.int .i64 t1121, .int .i64 t1122, .int .u32 t1123, .int .i64 0]) ?_ 3 _ rfl; (with_reducible repeat (first | refine blk_drewN ?_ _ | refine blk_drew ?_ | refine blk_alloc ?_ _)); refine blk_put (cs := #[.int .i64 t1121, .int .i64 t1122, .int .u32 0, .int .i64 0]) ?_ 2 _ rfl; (with_reducible repeat (first | refine blk_drewN ?_ _ | refine blk_drew ?_ | refine blk_alloc ?_ _)); refine blk_put (cs := #[.int .i64 t1121, .int .i64 0, .int .u32 0, .int .i64 0]) ?_ 1 _ rfl; (with_reducible repeat (first | refine blk_drewN ?_ _ | refine blk_drew ?_ | refine blk_alloc ?_ _)); refine blk_put (cs := #[.int .i64 0, .int .i64 0, .int .u32 0, .int .i64 0]) ?_ 0 _ rfl; (with_reducible repeat (first | refine blk_drewN ?_ _ | refine blk_drew ?_ | refine blk_alloc ?_ _)); exact BK1126.out) NB1126_0.out (by simp)); have n1_ := Aside0.mk (KeepBut.trans (by repeat (first | (with_reducible first | exact HK.out | apply KeepBut.set_ | apply keep_drewN | apply keep_drew | apply keep_alloc | refine keep_far ?_ GW1126.out _) | exact HK.out)) hk (.inl rfl)); have n2_ := Aside0.mk (hb); have n3_ := Aside0.mk (hi); clear BK1126; clear HK; clear HB; clear HI0; have BK1126 := n0_; have HK := n1_; have HB := n2_; have HI0 := n3_; clear n0_ n1_ n2_ n3_; (try clear hb); (try clear hb2); (try clear hk); (try clear hi)))
   go_meet
   case rel => exact ⟨_, (t1127), (t1128), (t1129), (by first | rfl | (simp; done) | (simp [*]; done) | (simp; rw [Int.tdiv_eq_ediv_of_nonneg (by omega)])), H', ⟨by first | omega | exact Nat.le_refl _⟩, ⟨by (with_reducible repeat (first | refine blk_drewN ?_ _ | refine blk_drew ?_ | refine blk_alloc ?_ _)); exact BK1126.out⟩, ⟨by repeat (first | (with_reducible first | exact HI0.out | apply IsS153.alloc | apply IsS153.drewN | apply IsS153.drew | apply IsS153.set_1 | apply IsS153.set_2 | refine IsS153.far ?_ NB0_1126.out _) | exact HI0.out)⟩, ⟨by repeat (first | (with_reducible first | exact HK.out | apply KeepBut.set_ | apply keep_drewN | apply keep_drew | apply keep_alloc | refine keep_far ?_ GW1126.out _) | exact HK.out)⟩, ⟨by repeat (first | (with_reducible first | exact HB.out | apply below_alloc | apply pw_below_drewN | apply below_drew1 | refine below_set ?_ (IsS153.ge HI0.out) | refine below_set ?_ GE1126.out) | exact HB.out)⟩⟩
  ·replace c9 := Bool.eq_false_iff.mpr c9
   subst c9
   (try simp only [Bool.not_true, Bool.not_false])
   rw [if_neg (show ¬ (false = true) by decide)] at H
   have H' := Aside0.mk H
   clear H
   go_wp2
   go_meet
   case rel => exact ⟨_, (false), (s0_1), (s0_2), (by first | rfl | (simp; done) | (simp [*]; done) | (simp; rw [Int.tdiv_eq_ediv_of_nonneg (by omega)])), H', ⟨by first | omega | exact Nat.le_refl _⟩, ⟨by (with_reducible repeat (first | refine blk_drewN ?_ _ | refine blk_drew ?_ | refine blk_alloc ?_ _)); refine blk_put (cs := #[.int .i64 t1121, .int .i64 t1122, .int .u32 t1123, .int .i64 0]) ?_ 3 _ rfl; (with_reducible repeat (first | refine blk_drewN ?_ _ | refine blk_drew ?_ | refine blk_alloc ?_ _)); refine blk_put (cs := #[.int .i64 t1121, .int .i64 t1122, .int .u32 0, .int .i64 0]) ?_ 2 _ rfl; (with_reducible repeat (first | refine blk_drewN ?_ _ | refine blk_drew ?_ | refine blk_alloc ?_ _)); refine blk_put (cs := #[.int .i64 t1121, .int .i64 0, .int .u32 0, .int .i64 0]) ?_ 1 _ rfl; (with_reducible repeat (first | refine blk_drewN ?_ _ | refine blk_drew ?_ | refine blk_alloc ?_ _)); refine blk_put (cs := #[.int .i64 0, .int .i64 0, .int .u32 0, .int .i64 0]) ?_ 0 _ rfl; (with_reducible repeat (first | refine blk_drewN ?_ _ | refine blk_drew ?_ | refine blk_alloc ?_ _)); exact BK1126.out⟩, ⟨by repeat (first | (with_reducible first | exact HI0.out | apply IsS153.alloc | apply IsS153.drewN | apply IsS153.drew | apply IsS153.set_1 | apply IsS153.set_2 | refine IsS153.far ?_ NB0_1126.out _) | exact HI0.out)⟩, ⟨by repeat (first | (with_reducible first | exact HK.out | apply KeepBut.set_ | apply keep_drewN | apply keep_drew | apply keep_alloc | refine keep_far ?_ GW1126.out _) | exact HK.out)⟩, ⟨by repeat (first | (with_reducible first | exact HB.out | apply below_alloc | apply pw_below_drewN | apply below_drew1 | refine below_set ?_ (IsS153.ge HI0.out) | refine below_set ?_ GE1126.out) | exact HB.out)⟩⟩
 case rest =>
  clear HC4
  try clear c1
  try clear p2
  try clear c7
  try clear c8
  try clear c9
  try clear hcz8_0
  try clear hcz8_1
  try clear hcz8_2
  try clear hcz8_3
  try clear hfz8_0
  try clear hfz8_1
  try clear hfz8_2
  try clear hfz8_3
  obtain ⟨kq, x16_3, x1001_3, x1002_3, rfl, HA, HJ3, BK1126, HI0, HK, HB⟩ := hcut
  cases kq with
  | zero => exact absurd HA.out (by simp [spec_l01Cur_classFor.j0])
  | succ kj3 =>
   have H := HA.out
   clear HA
   simp only [spec_l01Cur_classFor.j0] at H
   by_cases c12 : x16_3 = true
   ·subst c12
    rw [if_pos rfl] at H
    simp only [Option.some.injEq, Prod.mk.injEq] at H
    obtain ⟨rfl, rfl, rfl⟩ := H
    have hnb13 := NB1126_0.out
    have hnc13 := NB0_1126.out
    have hcz14_0 : wc.cell? ⟨gb1126, 0, none⟩ = some (.int .i64 t1121) := (blk_cell BK1126.out 0).trans rfl
    have hcz14_1 : wc.cell? ⟨gb1126, 1, none⟩ = some (.int .i64 t1122) := (blk_cell BK1126.out 1).trans rfl
    have hcz14_2 : wc.cell? ⟨gb1126, 2, none⟩ = some (.int .u32 t1123) := (blk_cell BK1126.out 2).trans rfl
    have hcz14_3 : wc.cell? ⟨gb1126, 3, none⟩ = some (.int .i64 t1124) := (blk_cell BK1126.out 3).trans rfl
    have hfz14_0 := blk_frozen BK1126.out 0
    have hfz14_1 := blk_frozen BK1126.out 1
    have hfz14_2 := blk_frozen BK1126.out 2
    have hfz14_3 := blk_frozen BK1126.out 3
    go_wp2
    go_ret
    exact ⟨by first | rfl | (simp only [i64_w, i32_w] <;> rfl) | (simp [errW_none, errW_some] <;> rfl) | (simp [*, errW_none, errW_some] <;> rfl), by repeat (first | (with_reducible first | exact HI0.out | apply IsS153.alloc | apply IsS153.drewN | apply IsS153.drew | apply IsS153.set_1 | apply IsS153.set_2 | refine IsS153.far ?_ NB0_1126.out _) | exact HI0.out), by repeat (first | (with_reducible first | exact HB.out | apply below_alloc | apply pw_below_drewN | apply below_drew1 | refine below_set ?_ (IsS153.ge HI0.out) | refine below_set ?_ GE1126.out) | exact HB.out), by repeat (first | (with_reducible first | exact HK.out | apply KeepBut.set_ | apply keep_drewN | apply keep_drew | apply keep_alloc | refine keep_far ?_ GW1126.out _) | exact HK.out)⟩
   ·replace c12 := Bool.eq_false_iff.mpr c12
    subst c12
    rw [if_neg (show ¬ (false = true) by decide)] at H
    replace H := Option.bind_eq_some_iff.mp H
    obtain ⟨⟨t1130, t1131, t1132⟩, A150, H⟩ := H
    try dsimp only at H
    have A15 := Aside0.mk A150
    clear A150
    replace H := Option.bind_eq_some_iff.mp H
    obtain ⟨⟨t1133, t1134, t1135⟩, A160, H⟩ := H
    try dsimp only at H
    have A16 := Aside0.mk A160
    clear A160
    replace H := Option.bind_eq_some_iff.mp H
    obtain ⟨⟨t1136, t1137, t1138⟩, A170, H⟩ := H
    try dsimp only at H
    have A17 := Aside0.mk A170
    clear A170
    obtain ⟨y1139, hy1139⟩ : ∃ y_ : List Int, y_ = (([t1130, t1133, 5, t1136] : List Int)) := ⟨_, rfl⟩
    replace H : ((spec_l01Cur_pick.f s0_0 t1137 t1138 4).bind fun bt1142 => (if 0 ≤ bt1142.1 then (if bt1142.1 < (y1139.length : Int) then (some (rd y1139 bt1142.1, bt1142.2.1, bt1142.2.2)) else (none)) else (none))) = some (r1, r2, r3) := by first | (rw [hy1139]; with_reducible exact H) | (have H2_ := (Option.bind_some _ _).symm.trans H; rw [hy1139]; with_reducible exact H2_) | (have H2_ := (Option.bind_some _ _).symm.trans H; with_reducible exact H2_) | with_reducible exact H | (rw [hy1139]; exact H) | exact H
    have Ny1139 := Aside0.mk hy1139
    clear hy1139
    replace H := Option.bind_eq_some_iff.mp H
    obtain ⟨⟨t1142, t1143, t1144⟩, A180, H⟩ := H
    try dsimp only at H
    have A18 := Aside0.mk A180
    clear A180
    by_cases c19 : 0 ≤ t1142
    ·rw [if_pos c19] at H
     have c19b0 : decide (0 ≤ t1142) = true := decide_eq_true c19
     clear c19
     by_cases c20 : t1142 < (y1139.length : Int)
     ·rw [if_pos c20] at H
      have c20b0 : decide (t1142 < (y1139.length : Int)) = true := decide_eq_true c20
      clear c20
      simp only [Option.some.injEq, Prod.mk.injEq] at H
      obtain ⟨rfl, rfl, rfl⟩ := H
      go_wp2_with (first | ((with_reducible refine gate_callee (f := 113) rfl ?_); refine goesL_ (some 20) rfl rfl Try.func113 (by kernel_rfl) rfl #[.pointer (some ⟨g, 0, none⟩), .int .i64 5] rfl (by (try simp only [List.map_toArray, List.map_cons, List.map_nil]); first | done | rfl | (simp only [List.length_drop, List.length_take]; rfl)) ?_; (with_reducible refine (spec_l01Cur_pick.calls g s0_0 x1001_3 x1002_3 5 t1130 t1131 t1132 w0 _ ?side1 ?side2 A15.out).mono ?_); (case side1 => repeat (first | (with_reducible first | exact HI0.out | apply IsS153.alloc | apply IsS153.drewN | apply IsS153.drew | apply IsS153.set_1 | apply IsS153.set_2 | refine IsS153.far ?_ NB0_1126.out _) | exact HI0.out)); (case side2 => repeat (first | (with_reducible first | exact HB.out | apply below_alloc | apply pw_below_drewN | apply below_drew1 | refine below_set ?_ (IsS153.ge HI0.out) | refine below_set ?_ GE1126.out) | exact HB.out)); rintro e w21 ⟨rfl, hi, hb, hk⟩; refine ⟨_, rfl, ?_⟩; have n0_ := Aside0.mk (KeepBut.blk hk (g' := gb1126) (o := .cells #[.int .i64 t1121, .int .i64 t1122, .int .u32 t1123, .int .i64 t1124] 78 (0, 0)) (by (with_reducible repeat (first | refine blk_drewN ?_ _ | refine blk_drew ?_ | refine blk_alloc ?_ _)); exact BK1126.out) NB1126_0.out (by simp)); have n1_ := Aside0.mk (KeepBut.trans (by repeat (first | (with_reducible first | exact HK.out | apply KeepBut.set_ | apply keep_drewN | apply keep_drew | apply keep_alloc | refine keep_far ?_ GW1126.out _) | exact HK.out)) hk (.inl rfl)); have n2_ := Aside0.mk (hb); have n3_ := Aside0.mk (hi); clear BK1126; clear HK; clear HB; clear HI0; have BK1126 := n0_; have HK := n1_; have HB := n2_; have HI0 := n3_; clear n0_ n1_ n2_ n3_; (try clear hb); (try clear hb2); (try clear hk); (try clear hi)) | ((with_reducible refine gate_callee (f := 113) rfl ?_); refine goesL_ (some 22) rfl rfl Try.func113 (by kernel_rfl) rfl #[.pointer (some ⟨g, 0, none⟩), .int .i64 5] rfl (by (try simp only [List.map_toArray, List.map_cons, List.map_nil]); first | done | rfl | (simp only [List.length_drop, List.length_take]; rfl)) ?_; (with_reducible refine (spec_l01Cur_pick.calls g s0_0 t1131 t1132 5 t1133 t1134 t1135 w0 _ ?side1 ?side2 A16.out).mono ?_); (case side1 => repeat (first | (with_reducible first | exact HI0.out | apply IsS153.alloc | apply IsS153.drewN | apply IsS153.drew | apply IsS153.set_1 | apply IsS153.set_2 | refine IsS153.far ?_ NB0_1126.out _) | exact HI0.out)); (case side2 => repeat (first | (with_reducible first | exact HB.out | apply below_alloc | apply pw_below_drewN | apply below_drew1 | refine below_set ?_ (IsS153.ge HI0.out) | refine below_set ?_ GE1126.out) | exact HB.out)); rintro e w22 ⟨rfl, hi, hb, hk⟩; refine ⟨_, rfl, ?_⟩; have n0_ := Aside0.mk (KeepBut.blk hk (g' := gb1126) (o := .cells #[.int .i64 t1121, .int .i64 t1122, .int .u32 t1123, .int .i64 t1124] 78 (0, 0)) (by (with_reducible repeat (first | refine blk_drewN ?_ _ | refine blk_drew ?_ | refine blk_alloc ?_ _)); exact BK1126.out) NB1126_0.out (by simp)); have n1_ := Aside0.mk (KeepBut.trans (by repeat (first | (with_reducible first | exact HK.out | apply KeepBut.set_ | apply keep_drewN | apply keep_drew | apply keep_alloc | refine keep_far ?_ GW1126.out _) | exact HK.out)) hk (.inl rfl)); have n2_ := Aside0.mk (hb); have n3_ := Aside0.mk (hi); clear BK1126; clear HK; clear HB; clear HI0; have BK1126 := n0_; have HK := n1_; have HB := n2_; have HI0 := n3_; clear n0_ n1_ n2_ n3_; (try clear hb); (try clear hb2); (try clear hk); (try clear hi)) | ((with_reducible refine gate_callee (f := 114) rfl ?_); refine goesL_ (some 24) rfl rfl Try.func114 (by kernel_rfl) rfl #[.pointer (some ⟨g, 0, none⟩)] rfl (by (try simp only [List.map_toArray, List.map_cons, List.map_nil]); first | done | rfl | (simp only [List.length_drop, List.length_take]; rfl)) ?_; (with_reducible refine (spec_l01Cur_raw.calls g s0_0 t1134 t1135 t1136 t1137 t1138 w0 _ ?side1 ?side2 A17.out).mono ?_); (case side1 => repeat (first | (with_reducible first | exact HI0.out | apply IsS153.alloc | apply IsS153.drewN | apply IsS153.drew | apply IsS153.set_1 | apply IsS153.set_2 | refine IsS153.far ?_ NB0_1126.out _) | exact HI0.out)); (case side2 => repeat (first | (with_reducible first | exact HB.out | apply below_alloc | apply pw_below_drewN | apply below_drew1 | refine below_set ?_ (IsS153.ge HI0.out) | refine below_set ?_ GE1126.out) | exact HB.out)); rintro e w23 ⟨rfl, hi, hb, hk⟩; refine ⟨_, rfl, ?_⟩; have n0_ := Aside0.mk (KeepBut.blk hk (g' := gb1126) (o := .cells #[.int .i64 t1121, .int .i64 t1122, .int .u32 t1123, .int .i64 t1124] 78 (0, 0)) (by (with_reducible repeat (first | refine blk_drewN ?_ _ | refine blk_drew ?_ | refine blk_alloc ?_ _)); exact BK1126.out) NB1126_0.out (by simp)); have n1_ := Aside0.mk (KeepBut.trans (by repeat (first | (with_reducible first | exact HK.out | apply KeepBut.set_ | apply keep_drewN | apply keep_drew | apply keep_alloc | refine keep_far ?_ GW1126.out _) | exact HK.out)) hk (.inl rfl)); have n2_ := Aside0.mk (hb); have n3_ := Aside0.mk (hi); clear BK1126; clear HK; clear HB; clear HI0; have BK1126 := n0_; have HK := n1_; have HB := n2_; have HI0 := n3_; clear n0_ n1_ n2_ n3_; (try clear hb); (try clear hb2); (try clear hk); (try clear hi)) | ((with_reducible refine gate_dst (N := 25) rfl ?_); refine Kd.R_lit (Kd.int .i64) _ 3 ?hg (N := 25) ?hd (xs := ([t1130, t1133, 5, t1136] : List Int)) (inner := [.int .i64 t1130, .int .i64 t1133, .int .i64 5, .int .i64 t1136]) (ok := fun _ => True) (okp := fun _ => True) ?hr ?hp (fun _ hk => hk) trivial (Below.refl _ _) (Nat.le_refl _) (by simp) ?_; (case hd => rfl); (case hg => rfl); (case hr => first | (go_simp; done) | (go_simp; rfl)); (case hp => exact (Reps.one (show Kd.M (Kd.int .i64) _ _ _ t1130 [.int .i64 t1130] from rfl) (Reps.one (show Kd.M (Kd.int .i64) _ _ _ t1133 [.int .i64 t1133] from rfl) (Reps.one (show Kd.M (Kd.int .i64) _ _ _ 5 [.int .i64 5] from rfl) (Reps.one (show Kd.M (Kd.int .i64) _ _ _ t1136 [.int .i64 t1136] from rfl) (Reps.none _ _)))))); intro v1140 w24 ho25 hb hg_ hnew_; clear hg_ hnew_; (first | rw [← Ny1139.out] at ho25 | (simp only [Int.reduceToNat] at ho25; rw [← Ny1139.out] at ho25)); have n0_ := Aside0.mk (Kd.R_lower ho25 (keep_size (w := w) (g := g) (row := none) (by repeat (first | (with_reducible first | exact HK.out | apply KeepBut.set_ | apply keep_drewN | apply keep_drew | apply keep_alloc | refine keep_far ?_ GW1126.out _) | exact HK.out)))); have n1_ := Aside0.mk (blk_below (g := gb1126) (o := .cells #[.int .i64 t1121, .int .i64 t1122, .int .u32 t1123, .int .i64 t1124] 78 (0, 0)) (by (with_reducible repeat (first | refine blk_drewN ?_ _ | refine blk_drew ?_ | refine blk_alloc ?_ _)); exact BK1126.out) hb); have n2_ := Aside0.mk (IsS153.below (by repeat (first | (with_reducible first | exact HI0.out | apply IsS153.alloc | apply IsS153.drewN | apply IsS153.drew | apply IsS153.set_1 | apply IsS153.set_2 | refine IsS153.far ?_ NB0_1126.out _) | exact HI0.out)) hb); have n3_ := Aside0.mk (KeepBut.trans (by repeat (first | (with_reducible first | exact HK.out | apply KeepBut.set_ | apply keep_drewN | apply keep_drew | apply keep_alloc | refine keep_far ?_ GW1126.out _) | exact HK.out)) (KeepBut.of_below hb g none) (.inl rfl)); have n4_ := Aside0.mk (below_step (by repeat (first | (with_reducible first | exact HB.out | apply below_alloc | apply pw_below_drewN | apply below_drew1 | refine below_set ?_ (IsS153.ge HI0.out) | refine below_set ?_ GE1126.out) | exact HB.out)) hb); clear BK1126; clear HI0; clear HK; clear HB; have HO1141 := n0_; have BK1126 := n1_; have HI0 := n2_; have HK := n3_; have HB := n4_; clear n0_ n1_ n2_ n3_ n4_; clear hb ho25) | ((with_reducible refine gate_callee (f := 113) rfl ?_); refine goesL_ (some 27) rfl rfl Try.func113 (by kernel_rfl) rfl #[.pointer (some ⟨g, 0, none⟩), .int .i64 4] rfl (by (try simp only [List.map_toArray, List.map_cons, List.map_nil]); first | done | rfl | (simp only [List.length_drop, List.length_take]; rfl)) ?_; (with_reducible refine (spec_l01Cur_pick.calls g s0_0 t1137 t1138 4 t1142 t1143 t1144 w0 _ ?side1 ?side2 A18.out).mono ?_); (case side1 => repeat (first | (with_reducible first | exact HI0.out | apply IsS153.alloc | apply IsS153.drewN | apply IsS153.drew | apply IsS153.set_1 | apply IsS153.set_2 | refine IsS153.far ?_ NB0_1126.out _) | exact HI0.out)); (case side2 => repeat (first | (with_reducible first | exact HB.out | apply below_alloc | apply pw_below_drewN | apply below_drew1 | refine below_set ?_ (IsS153.ge HI0.out) | refine below_set ?_ GE1126.out) | exact HB.out)); rintro e w26 ⟨rfl, hi, hb, hk⟩; refine ⟨_, rfl, ?_⟩; have n0_ := Aside0.mk (KeepBut.blk hk (g' := gb1126) (o := .cells #[.int .i64 t1121, .int .i64 t1122, .int .u32 t1123, .int .i64 t1124] 78 (0, 0)) (by (with_reducible repeat (first | refine blk_drewN ?_ _ | refine blk_drew ?_ | refine blk_alloc ?_ _)); exact BK1126.out) NB1126_0.out (by simp)); have n1_ := Aside0.mk (Kd.R_mono (Kd.R_keep (IsS153.apart (show IsS153 w0 _ g s0_0 t1137 t1138 from by repeat (first | (with_reducible first | exact HI0.out | apply IsS153.alloc | apply IsS153.drewN | apply IsS153.drew | apply IsS153.set_1 | apply IsS153.set_2 | refine IsS153.far ?_ NB0_1126.out _) | exact HI0.out)) (by (with_reducible repeat (first | apply Kd.R_alloc | apply Kd.R_drewN | apply Kd.R_drew)); exact HO1141.out) (by decide)) hk (fun _ h => h.2)) (fun _ h => h.1)); have n2_ := Aside0.mk (KeepBut.trans (by repeat (first | (with_reducible first | exact HK.out | apply KeepBut.set_ | apply keep_drewN | apply keep_drew | apply keep_alloc | refine keep_far ?_ GW1126.out _) | exact HK.out)) hk (.inl rfl)); have n3_ := Aside0.mk (hb); have n4_ := Aside0.mk (hi); clear BK1126; clear HO1141; clear HK; clear HB; clear HI0; have BK1126 := n0_; have HO1141 := n1_; have HK := n2_; have HB := n3_; have HI0 := n4_; clear n0_ n1_ n2_ n3_ n4_; (try clear hb); (try clear hb2); (try clear hk); (try clear hi); obtain ⟨Ao27, co27, eo27⟩ := Kd.R_slice HO1141.out; subst eo27; have p1145 : 0 ≤ (t1142 : Int) := of_decide_eq_true (by first | (with_reducible assumption) | assumption); have q1145 : t1142 < (y1139.length : Int) := of_decide_eq_true (by first | (with_reducible assumption) | assumption); obtain ⟨ad1145, e1145, hx1145_0⟩ := Kd.at_int (Kd.R_reads' HO1141.out).2.2 t1142 p1145 q1145; cases e1145; replace p1145 := eq_true p1145; replace q1145 := eq_true q1145))
      go_ret
      exact ⟨by first | rfl | (simp only [i64_w, i32_w] <;> rfl) | (simp [errW_none, errW_some] <;> rfl) | (simp [*, errW_none, errW_some] <;> rfl), by repeat (first | (with_reducible first | exact HI0.out | apply IsS153.alloc | apply IsS153.drewN | apply IsS153.drew | apply IsS153.set_1 | apply IsS153.set_2 | refine IsS153.far ?_ NB0_1126.out _) | exact HI0.out), by repeat (first | (with_reducible first | exact HB.out | apply below_alloc | apply pw_below_drewN | apply below_drew1 | refine below_set ?_ (IsS153.ge HI0.out) | refine below_set ?_ GE1126.out) | exact HB.out), by repeat (first | (with_reducible first | exact HK.out | apply KeepBut.set_ | apply keep_drewN | apply keep_drew | apply keep_alloc | refine keep_far ?_ GW1126.out _) | exact HK.out)⟩
     ·rw [if_neg c20] at H
      exact absurd H (by simp)
    ·rw [if_neg c19] at H
     exact absurd H (by simp)

/-! ### spec_DrawClaim: function 61 -/
def spec_DrawClaim.f (k : Nat) (l0 : List Int) : Option (Int × Int × Int) := (spec_l01Open.f l0).bind fun bt1146 => ((spec_l01Cur_ctlWord.f k bt1146.1 bt1146.2.1 bt1146.2.2).bind fun bt1150 => ((spec_l01Cur_classFor.f k bt1146.1 bt1150.2.1 bt1150.2.2 bt1150.1).bind fun bt1153 => ((spec_l01Cur_pick.f bt1146.1 bt1153.2.1 bt1153.2.2 8).bind fun bt1156 => ((spec_l01Cur_pick.f bt1146.1 bt1156.2.1 bt1156.2.2 20).bind fun bt1159 => ((spec_l01Cur_raw.f bt1146.1 bt1159.2.1 bt1159.2.2).bind fun bt1162 => ((some (([wrap64 (1 + bt1156.1), bt1159.1, bt1162.1] : List Int) : List Int)).bind fun y1165 => ((spec_l01Cur_pick.f bt1146.1 bt1162.2.1 bt1162.2.2 3).bind fun bt1168 => (if 0 ≤ bt1168.1 then (if bt1168.1 < (y1165.length : Int) then (some (bt1150.1, bt1153.1, rd y1165 bt1168.1)) else (none)) else (none)))))))))
theorem spec_DrawClaim.mono : ∀ a0 k, LeO (spec_DrawClaim.f k a0) (spec_DrawClaim.f (k + 1) a0) := by
 intro a0 k
 unfold spec_DrawClaim.f
 repeat' first
   | (with_reducible exact spec_l01Cur_classFor.mono _ _ _ _ _)
   | (with_reducible exact spec_l01Cur_ctlWord.mono _ _ _ _)
   | (with_reducible exact LeO.refl _)
   | (with_reducible exact LeO.none _)
   | (with_reducible refine LeO.ite ?_ ?_)
   | (with_reducible refine LeO.bind ?_ (fun _ => ?_))
   | exact spec_l01Cur_classFor.mono _ _ _ _ _
   | exact spec_l01Cur_ctlWord.mono _ _ _ _
   | exact LeO.none _
   | refine LeO.ite ?_ ?_
   | refine LeO.bind ?_ (fun _ => ?_)
def spec_DrawClaim.T3 : Bool × List (List Nat × List Nat) := (true, [([], []), ([], []), ([], []), ([1, 2], [1, 2]), ([], []), ([4, 3], [4]), ([5], [5]), ([], []), ([7, 5], [7]), ([], []), ([9, 8], [9]), ([6, 8, 10], [6, 8, 10]), ([], []), ([12, 10], [12]), ([11, 13], [11, 13]), ([14], [14]), ([0, 13, 0], [0]), ([3, 16, 0, 1, 2, 3, 16], [3]), ([15, 17, 0, 1, 2, 3, 4, 5, 6, 7, 8, 9, 10, 11, 12, 13, 14, 15, 16, 17], [15])])
def spec_DrawClaim.B3 : List Nat := [0, 0, 0, 6, 0, 30, 62, 0, 190, 0, 958, 2046, 0, 6078, 16382, 32766, 14271, 79807, 262143]
theorem spec_DrawClaim.tab3 : rtab .any (opsOf Try.f61 3) = spec_DrawClaim.T3 := by kernel_rfl
theorem spec_DrawClaim.bits3 : waitsOk spec_DrawClaim.T3.2 spec_DrawClaim.B3 = true := by kernel_rfl
set_option maxHeartbeats 8000000 in
set_option maxRecDepth 100000 in
theorem spec_DrawClaim.calls (k : Nat) (A0 : Option Addr) (c0 : Nat) (l0 : List Int) (r1 : Int) (r2 : Int) (r3 : Int) (w : World) (hr0 : Kd.C (Kd.int .u8) w A0 l0.length l0) (hc0 : l0.length ≤ c0) (h : spec_DrawClaim.f k l0 = some (r1, r2, r3)) :
  Calls Try.prog 61 #[.slice A0 l0.length c0] w fun e w' => e = .returned (.tuple #[.int .u32 r1, .int .i64 r2, .int .i64 r3]) ∧ Below w.heap.size w w' := by
 have HR0 := Aside0.mk hr0
 have HC0 := Aside0.mk hc0
 clear hr0 hc0
 have HB := Aside0.mk (Below.refl w.heap.size w)
 unfold spec_DrawClaim.f at h
 have H := h
 clear h
 replace H := Option.bind_eq_some_iff.mp H
 obtain ⟨⟨t1146, t1147, t1148⟩, A20, H⟩ := H
 try dsimp only at H
 have A2 := Aside0.mk A20
 clear A20
 replace H := Option.bind_eq_some_iff.mp H
 obtain ⟨⟨t1150, t1151, t1152⟩, A30, H⟩ := H
 try dsimp only at H
 have A3 := Aside0.mk A30
 clear A30
 replace H := Option.bind_eq_some_iff.mp H
 obtain ⟨⟨t1153, t1154, t1155⟩, A40, H⟩ := H
 try dsimp only at H
 have A4 := Aside0.mk A40
 clear A40
 replace H := Option.bind_eq_some_iff.mp H
 obtain ⟨⟨t1156, t1157, t1158⟩, A50, H⟩ := H
 try dsimp only at H
 have A5 := Aside0.mk A50
 clear A50
 replace H := Option.bind_eq_some_iff.mp H
 obtain ⟨⟨t1159, t1160, t1161⟩, A60, H⟩ := H
 try dsimp only at H
 have A6 := Aside0.mk A60
 clear A60
 replace H := Option.bind_eq_some_iff.mp H
 obtain ⟨⟨t1162, t1163, t1164⟩, A70, H⟩ := H
 try dsimp only at H
 have A7 := Aside0.mk A70
 clear A70
 obtain ⟨y1165, hy1165⟩ : ∃ y_ : List Int, y_ = (([wrap64 (1 + t1156), t1159, t1162] : List Int)) := ⟨_, rfl⟩
 replace H : ((spec_l01Cur_pick.f t1146 t1163 t1164 3).bind fun bt1168 => (if 0 ≤ bt1168.1 then (if bt1168.1 < (y1165.length : Int) then (some (t1150, t1153, rd y1165 bt1168.1)) else (none)) else (none))) = some (r1, r2, r3) := by first | (rw [hy1165]; with_reducible exact H) | (have H2_ := (Option.bind_some _ _).symm.trans H; rw [hy1165]; with_reducible exact H2_) | (have H2_ := (Option.bind_some _ _).symm.trans H; with_reducible exact H2_) | with_reducible exact H | (rw [hy1165]; exact H) | exact H
 have Ny1165 := Aside0.mk hy1165
 clear hy1165
 replace H := Option.bind_eq_some_iff.mp H
 obtain ⟨⟨t1168, t1169, t1170⟩, A80, H⟩ := H
 try dsimp only at H
 have A8 := Aside0.mk A80
 clear A80
 by_cases c9 : 0 ≤ t1168
 ·rw [if_pos c9] at H
  have c9b0 : decide (0 ≤ t1168) = true := decide_eq_true c9
  clear c9
  by_cases c10 : t1168 < (y1165.length : Int)
  ·rw [if_pos c10] at H
   have c10b0 : decide (t1168 < (y1165.length : Int)) = true := decide_eq_true c10
   clear c10
   simp only [Option.some.injEq, Prod.mk.injEq] at H
   obtain ⟨rfl, rfl, rfl⟩ := H
   go_enter Try.func61, Try.ntmps61
   try go_wp2_with (first | ((with_reducible refine gate_callee (f := 110) rfl ?_); refine goesL_ (some 8) rfl rfl Try.func110 (by kernel_rfl) rfl #[.slice A0 l0.length c0] rfl (by (try simp only [List.map_toArray, List.map_cons, List.map_nil]); first | done | rfl | (simp only [List.length_drop, List.length_take]; rfl)) ?_; (with_reducible refine (spec_l01Open.calls _ _ l0 t1146 t1147 t1148 w _ ?side1 ?side2 ?side3 A2.out).mono ?_); (case side1 => repeat (first | (with_reducible first | exact HB.out | apply below_alloc | apply pw_below_drewN | apply below_drew1) | exact HB.out)); (case side2 => exact HR0.out); (case side3 => exact HC0.out); rintro e w11 ⟨g1149, rfl, hi, hb, hb2⟩; refine ⟨_, rfl, ?_⟩; have n0_ := Aside0.mk (hb); have n1_ := Aside0.mk (hi); clear HB; have HB := n0_; have HI1149 := n1_; clear n0_ n1_; (try clear hb); (try clear hb2); (try clear hk); (try clear hi)) | ((with_reducible refine gate_callee (f := 111) rfl ?_); refine goesL_ (some 10) rfl rfl Try.func111 (by kernel_rfl) rfl #[.pointer (some ⟨g1149, 0, none⟩)] rfl (by (try simp only [List.map_toArray, List.map_cons, List.map_nil]); first | done | rfl | (simp only [List.length_drop, List.length_take]; rfl)) ?_; (with_reducible refine (spec_l01Cur_ctlWord.calls k g1149 t1146 t1147 t1148 t1150 t1151 t1152 w _ ?side1 ?side2 A3.out).mono ?_); (case side1 => repeat (first | (with_reducible first | exact HI1149.out | apply IsS153.alloc | apply IsS153.drewN | apply IsS153.drew | apply IsS153.set_1 | apply IsS153.set_2) | exact HI1149.out)); (case side2 => repeat (first | (with_reducible first | exact HB.out | apply below_alloc | apply pw_below_drewN | apply below_drew1 | refine below_set ?_ (IsS153.ge HI1149.out)) | exact HB.out)); rintro e w12 ⟨rfl, hi, hb, hk⟩; refine ⟨_, rfl, ?_⟩; have n0_ := Aside0.mk (hb); have n1_ := Aside0.mk (hi); clear HB; clear HI1149; have HB := n0_; have HI1149 := n1_; clear n0_ n1_; (try clear hb); (try clear hb2); (try clear hk); (try clear hi)))
   have pi1171 : (0 ≤ (t1168 : Int)) = True := eq_true (of_decide_eq_true (by first | (with_reducible assumption) | assumption))
   have qi1171 : (t1168 < (y1165.length : Int)) = True := eq_true (of_decide_eq_true (by first | (with_reducible assumption) | assumption))
   have n0_ := Aside0.mk (IsS153.drew HI1149.out)
   have n1_ := Aside0.mk (below_drew1 HB.out)
   clear HI1149
   clear HB
   have HI1149 := n0_
   have HB := n1_
   clear n0_ n1_
   refine start_ (n := 19) (S := fun w' => True) (ds := []) #[false, false, false, false, false, false, false, false, false, false, false, false, false, false, false, false, false, false, false] (by kernel_rfl) rfl rfl trivial (fun hHeld => ?_); refine with_tabW spec_DrawClaim.tab3 spec_DrawClaim.bits3 (fun HT_ HW_ => ?_)
   generalize w12.drew = w13 at HI1149 HB hHeld ⊢
   refine pure_ (i := 0) (N := some 11) (v := ?_) (a' := ?_) #[true, false, false, false, false, false, false, false, false, false, false, false, false, false, false, false, false, false, false] rfl rfl (any_of HT_.out (by kernel_rfl)) (fun _ _ _ h => h) (Or.inl ⟨by rfl, ?_⟩) ?_ ?_
   rotate_left
   ·intro w'
    go_simp
    with_reducible rfl
   rotate_left
   ·simp only [Act.put, List.setIfInBounds_toArray, List.set_cons_zero, List.set_cons_succ, i64_w, i32_w]
    rfl
   refine pure_ (i := 1) (N := some 12) (v := ?_) (a' := ?_) #[true, true, false, false, false, false, false, false, false, false, false, false, false, false, false, false, false, false, false] rfl rfl (any_of HT_.out (by kernel_rfl)) (fun _ _ _ h => h) (Or.inl ⟨by rfl, ?_⟩) ?_ ?_
   rotate_left
   ·intro w'
    go_simp
    with_reducible rfl
   rotate_left
   ·simp only [Act.put, List.setIfInBounds_toArray, List.set_cons_zero, List.set_cons_succ, i64_w, i32_w]
    rfl
   refine pure_ (i := 2) (N := some 13) (v := ?_) (a' := ?_) #[true, true, true, false, false, false, false, false, false, false, false, false, false, false, false, false, false, false, false] rfl rfl (any_of HT_.out (by kernel_rfl)) (fun _ _ _ h => h) (Or.inl ⟨by rfl, ?_⟩) ?_ ?_
   rotate_left
   ·intro w'
    go_simp
    with_reducible rfl
   rotate_left
   ·simp only [Act.put, List.setIfInBounds_toArray, List.set_cons_zero, List.set_cons_succ, i64_w, i32_w]
    rfl
   refine pure_ (i := 4) (N := some 15) (v := ?_) (a' := ?_) #[true, true, true, false, true, false, false, false, false, false, false, false, false, false, false, false, false, false, false] rfl rfl (any_of HT_.out (by kernel_rfl)) (fun _ _ _ h => h) (Or.inl ⟨by rfl, ?_⟩) ?_ ?_
   rotate_left
   ·intro w'
    go_simp
    with_reducible rfl
   rotate_left
   ·simp only [Act.put, List.setIfInBounds_toArray, List.set_cons_zero, List.set_cons_succ, i64_w, i32_w]
    rfl
   refine pure_ (i := 7) (N := some 18) (v := ?_) (a' := ?_) #[true, true, true, false, true, false, false, true, false, false, false, false, false, false, false, false, false, false, false] rfl rfl (any_of HT_.out (by kernel_rfl)) (fun _ _ _ h => h) (Or.inl ⟨by rfl, ?_⟩) ?_ ?_
   rotate_left
   ·intro w'
    go_simp
    with_reducible rfl
   rotate_left
   ·simp only [Act.put, List.setIfInBounds_toArray, List.set_cons_zero, List.set_cons_succ, i64_w, i32_w]
    rfl
   refine pure_ (i := 9) (N := some 20) (v := ?_) (a' := ?_) #[true, true, true, false, true, false, false, true, false, true, false, false, false, false, false, false, false, false, false] rfl rfl (any_of HT_.out (by kernel_rfl)) (fun _ _ _ h => h) (Or.inl ⟨by rfl, ?_⟩) ?_ ?_
   rotate_left
   ·intro w'
    go_simp
    with_reducible rfl
   rotate_left
   ·simp only [Act.put, List.setIfInBounds_toArray, List.set_cons_zero, List.set_cons_succ, i64_w, i32_w]
    rfl
   refine pure_ (i := 12) (N := some 23) (v := ?_) (a' := ?_) #[true, true, true, false, true, false, false, true, false, true, false, false, true, false, false, false, false, false, false] rfl rfl (any_of HT_.out (by kernel_rfl)) (fun _ _ _ h => h) (Or.inl ⟨by rfl, ?_⟩) ?_ ?_
   rotate_left
   ·intro w'
    go_simp
    with_reducible rfl
   rotate_left
   ·simp only [Act.put, List.setIfInBounds_toArray, List.set_cons_zero, List.set_cons_succ, i64_w, i32_w]
    rfl
   refine inv_at [3, 5, 6, 8, 10, 11, 13, 14, 15, 16, 17, 18] (fun a0_ b a w' => ∃ (v1166 : Value) (adz_v1166 : Addr) (m14_ : Value), a = putSel a0_ b [(3, 14, .int .i64 t1153), (5, 16, .int .i64 t1156), (6, 17, .int .i64 (wrap64 (1 + t1156))), (8, 19, .int .i64 t1159), (10, 21, .int .i64 t1162), (11, 22, v1166), (13, 24, .int .i64 t1168), (14, 25, m14_), (15, 26, .int .i64 (rd y1165 t1168)), (16, 2, .int .u32 t1150), (17, 3, .int .i64 t1153), (18, 4, .int .i64 (rd y1165 t1168))] ∧ (b 3 = false → IsS153 w w' g1149 t1146 t1151 t1152) ∧ (Below w.heap.size w w') ∧ (b 3 = true → b 5 = false → IsS153 w w' g1149 t1146 t1154 t1155) ∧ (b 5 = true → b 8 = false → IsS153 w w' g1149 t1146 t1157 t1158) ∧ (b 8 = true → b 10 = false → IsS153 w w' g1149 t1146 t1160 t1161) ∧ (b 10 = true → b 13 = false → IsS153 w w' g1149 t1146 t1163 t1164) ∧ (b 11 = true → Kd.R (Kd.int .i64) 3 w' w.heap.size (fun _ => True) v1166 y1165) ∧ (b 11 = true → ∃ c_, (v1166 : Value) = .slice (some adz_v1166) y1165.length c_) ∧ (b 13 = true → IsS153 w w' g1149 t1146 t1169 t1170) ∧ (b 14 = true → (m14_ : Value) = .pointer (some (adz_v1166.add (t1168).toNat)))) HT_.out HW_.out (by kernel_rfl) (by kernel_rfl) ?_ ?_ ?_
   ·exact ⟨.bool false, ⟨0, 0, none⟩, .bool false, by simp only [putSel, Bool.false_eq_true, if_false], fun _ => HI1149.out, HB.out, fun h_ => absurd h_ (by decide), fun h_ => absurd h_ (by decide), fun h_ => absurd h_ (by decide), fun h_ => absurd h_ (by decide), fun h_ => absurd h_ (by decide), fun h_ => absurd h_ (by decide), fun h_ => absurd h_ (by decide), fun h_ => absurd h_ (by decide)⟩
   ·skip
    clear HB HI1149
    refine steps_cons ?_ ?_
    ·rintro b a w' ⟨v1166, adz_v1166, m14_, ha, Q_HI1149, Q_HB, Q_HI1149_e3, Q_HI1149_e5, Q_HI1149_e8, Q_HI1149_e10, Q_HO1167, Q_HA_HO1167, Q_HI1149_e13, Q_X14_⟩ hb_ hon hoff
     refine ⟨_, rfl, fun K hK => ?_⟩
     have e12 : a.tmps[12]? = some (.pointer (some ⟨g1149, 0, none⟩)) := by rw [ha]; exact (putSel_off rfl).trans rfl
     have e13 : a.tmps[13]? = some (.int .u32 t1150) := by rw [ha]; exact (putSel_off rfl).trans rfl
     replace ha := Aside0.mk ha
     have HI1149 := Aside0.mk (Q_HI1149 hb_)
     have HB := Aside0.mk Q_HB
     refine goes_ Try.func124 (by kernel_rfl) rfl #[.pointer (some ⟨g1149, 0, none⟩), .int .u32 t1150] (by rfl) rfl rfl (by first | (simp only [List.map_toArray, List.map_cons, List.map_nil, Act.eval, Array.getD_eq_getD_getElem?, Option.getD_some, e12, e13]; done) | (simp only [List.map_toArray, List.map_cons, List.map_nil, Act.eval, Array.getD_eq_getD_getElem?, Option.getD_some, e12, e13]; rfl)) ?_
     with_reducible refine (spec_l01Cur_classFor.calls k g1149 t1146 t1151 t1152 t1150 t1153 t1154 t1155 w _ ?side1 ?side2 A4.out).mono ?_
     (case side1 => repeat (first | (with_reducible first | exact HI1149.out | apply IsS153.alloc | apply IsS153.drewN | apply IsS153.drew | apply IsS153.set_1 | apply IsS153.set_2) | exact HI1149.out))
     (case side2 => repeat (first | (with_reducible first | exact HB.out | apply below_alloc | apply pw_below_drewN | apply below_drew1 | refine below_set ?_ (IsS153.ge HI1149.out)) | exact HB.out))
     rintro e w14 ⟨rfl, hi, hb, hk⟩
     refine ⟨_, rfl, ?_⟩
     have n0_ := Aside0.mk (hb)
     have n1_ := Aside0.mk (hi)
     clear HB
     clear HI1149
     have HB := n0_
     have HI1149 := n1_
     clear n0_ n1_
     (try clear hb)
     (try clear hb2)
     (try clear hk)
     (try clear hi)
     refine hK.out _ _ ⟨v1166, adz_v1166, m14_, (by rw [ha.out]; exact putSel_upk 0 hb_ rfl rfl rfl), fun h0_ => absurd ((up_self b 3).symm.trans h0_) (by decide), (by repeat (first | (with_reducible first | exact HB.out | apply below_alloc | apply pw_below_drewN | apply below_drew1 | refine below_set ?_ (IsS153.ge HI1149.out)) | exact HB.out)), fun _ _ => (by repeat (first | (with_reducible first | exact HI1149.out | apply IsS153.alloc | apply IsS153.drewN | apply IsS153.drew | apply IsS153.set_1 | apply IsS153.set_2) | exact HI1149.out)), fun h0_ _ => absurd ((hoff 5 (by kernel_rfl)).symm.trans h0_) (by decide), fun h0_ _ => absurd ((hoff 8 (by kernel_rfl)).symm.trans h0_) (by decide), fun h0_ _ => absurd ((hoff 10 (by kernel_rfl)).symm.trans h0_) (by decide), fun h0_ => absurd ((hoff 11 (by kernel_rfl)).symm.trans h0_) (by decide), fun h0_ => absurd ((hoff 11 (by kernel_rfl)).symm.trans h0_) (by decide), fun h0_ => absurd ((hoff 13 (by kernel_rfl)).symm.trans h0_) (by decide), fun h0_ => absurd ((hoff 14 (by kernel_rfl)).symm.trans h0_) (by decide)⟩
    refine steps_cons ?_ ?_
    ·rintro b a w' ⟨v1166, adz_v1166, m14_, ha, Q_HI1149, Q_HB, Q_HI1149_e3, Q_HI1149_e5, Q_HI1149_e8, Q_HI1149_e10, Q_HO1167, Q_HA_HO1167, Q_HI1149_e13, Q_X14_⟩ hb_ hon hoff
     refine ⟨_, rfl, fun K hK => ?_⟩
     have e15 : a.tmps[15]? = some (.pointer (some ⟨g1149, 0, none⟩)) := by rw [ha]; exact (putSel_off rfl).trans rfl
     replace ha := Aside0.mk ha
     have HB := Aside0.mk Q_HB
     have HI1149 := Aside0.mk (Q_HI1149_e3 (hon 3 (by kernel_rfl)) hb_)
     refine goes_ Try.func113 (by kernel_rfl) rfl #[.pointer (some ⟨g1149, 0, none⟩), .int .i64 8] (by rfl) rfl rfl (by first | (simp only [List.map_toArray, List.map_cons, List.map_nil, Act.eval, Array.getD_eq_getD_getElem?, Option.getD_some, e15]; done) | (simp only [List.map_toArray, List.map_cons, List.map_nil, Act.eval, Array.getD_eq_getD_getElem?, Option.getD_some, e15]; rfl)) ?_
     with_reducible refine (spec_l01Cur_pick.calls g1149 t1146 t1154 t1155 8 t1156 t1157 t1158 w _ ?side1 ?side2 A5.out).mono ?_
     (case side1 => repeat (first | (with_reducible first | exact HI1149.out | apply IsS153.alloc | apply IsS153.drewN | apply IsS153.drew | apply IsS153.set_1 | apply IsS153.set_2) | exact HI1149.out))
     (case side2 => repeat (first | (with_reducible first | exact HB.out | apply below_alloc | apply pw_below_drewN | apply below_drew1 | refine below_set ?_ (IsS153.ge HI1149.out)) | exact HB.out))
     rintro e w16 ⟨rfl, hi, hb, hk⟩
     refine ⟨_, rfl, ?_⟩
     have n0_ := Aside0.mk (hb)
     have n1_ := Aside0.mk (hi)
     clear HB
     clear HI1149
     have HB := n0_
     have HI1149 := n1_
     clear n0_ n1_
     (try clear hb)
     (try clear hb2)
     (try clear hk)
     (try clear hi)
     refine hK.out _ _ ⟨v1166, adz_v1166, m14_, (by rw [ha.out]; exact putSel_upk 1 hb_ rfl rfl rfl), fun h0_ => absurd ((hon 3 (by kernel_rfl)).symm.trans h0_) (by decide), (by repeat (first | (with_reducible first | exact HB.out | apply below_alloc | apply pw_below_drewN | apply below_drew1 | refine below_set ?_ (IsS153.ge HI1149.out)) | exact HB.out)), fun _ h1_ => absurd ((up_self b 5).symm.trans h1_) (by decide), fun _ _ => (by repeat (first | (with_reducible first | exact HI1149.out | apply IsS153.alloc | apply IsS153.drewN | apply IsS153.drew | apply IsS153.set_1 | apply IsS153.set_2) | exact HI1149.out)), fun h0_ _ => absurd ((hoff 8 (by kernel_rfl)).symm.trans h0_) (by decide), fun h0_ _ => absurd ((hoff 10 (by kernel_rfl)).symm.trans h0_) (by decide), fun h0_ => absurd ((hoff 11 (by kernel_rfl)).symm.trans h0_) (by decide), fun h0_ => absurd ((hoff 11 (by kernel_rfl)).symm.trans h0_) (by decide), fun h0_ => absurd ((hoff 13 (by kernel_rfl)).symm.trans h0_) (by decide), fun h0_ => absurd ((hoff 14 (by kernel_rfl)).symm.trans h0_) (by decide)⟩
    refine steps_cons ?_ ?_
    ·rintro b a w' ⟨v1166, adz_v1166, m14_, ha, Q_HI1149, Q_HB, Q_HI1149_e3, Q_HI1149_e5, Q_HI1149_e8, Q_HI1149_e10, Q_HO1167, Q_HA_HO1167, Q_HI1149_e13, Q_X14_⟩ hb_ hon hoff
     refine ⟨_, rfl, fun K hK => ?_⟩
     have e16 : a.tmps[16]? = some (.int .i64 t1156) := by rw [ha]; exact putSel_on (e := (5, 16, .int .i64 t1156)) 1 rfl rfl (hon 5 (by kernel_rfl)) rfl
     replace ha := Aside0.mk ha
     have HB := Aside0.mk Q_HB
     refine value_ (w1 := w') (v := .int .i64 (wrap64 (1 + t1156))) (by rfl) rfl ?_ ?_
     ·go_simp
      (try simp only [i64_w])
      try rfl
     refine hK.out _ _ ⟨v1166, adz_v1166, m14_, (by rw [ha.out]; exact putSel_upk 2 hb_ rfl rfl rfl), fun h0_ => absurd ((hon 3 (by kernel_rfl)).symm.trans h0_) (by decide), Q_HB, fun _ h1_ => absurd ((hon 5 (by kernel_rfl)).symm.trans h1_) (by decide), Q_HI1149_e5, Q_HI1149_e8, Q_HI1149_e10, fun h0_ => absurd ((hoff 11 (by kernel_rfl)).symm.trans h0_) (by decide), fun h0_ => absurd ((hoff 11 (by kernel_rfl)).symm.trans h0_) (by decide), Q_HI1149_e13, fun h0_ => absurd ((hoff 14 (by kernel_rfl)).symm.trans h0_) (by decide)⟩
    refine steps_cons ?_ ?_
    ·rintro b a w' ⟨v1166, adz_v1166, m14_, ha, Q_HI1149, Q_HB, Q_HI1149_e3, Q_HI1149_e5, Q_HI1149_e8, Q_HI1149_e10, Q_HO1167, Q_HA_HO1167, Q_HI1149_e13, Q_X14_⟩ hb_ hon hoff
     refine ⟨_, rfl, fun K hK => ?_⟩
     have e18 : a.tmps[18]? = some (.pointer (some ⟨g1149, 0, none⟩)) := by rw [ha]; exact (putSel_off rfl).trans rfl
     replace ha := Aside0.mk ha
     have HB := Aside0.mk Q_HB
     have HI1149 := Aside0.mk (Q_HI1149_e5 (hon 5 (by kernel_rfl)) hb_)
     refine goes_ Try.func113 (by kernel_rfl) rfl #[.pointer (some ⟨g1149, 0, none⟩), .int .i64 20] (by rfl) rfl rfl (by first | (simp only [List.map_toArray, List.map_cons, List.map_nil, Act.eval, Array.getD_eq_getD_getElem?, Option.getD_some, e18]; done) | (simp only [List.map_toArray, List.map_cons, List.map_nil, Act.eval, Array.getD_eq_getD_getElem?, Option.getD_some, e18]; rfl)) ?_
     with_reducible refine (spec_l01Cur_pick.calls g1149 t1146 t1157 t1158 20 t1159 t1160 t1161 w _ ?side1 ?side2 A6.out).mono ?_
     (case side1 => repeat (first | (with_reducible first | exact HI1149.out | apply IsS153.alloc | apply IsS153.drewN | apply IsS153.drew | apply IsS153.set_1 | apply IsS153.set_2) | exact HI1149.out))
     (case side2 => repeat (first | (with_reducible first | exact HB.out | apply below_alloc | apply pw_below_drewN | apply below_drew1 | refine below_set ?_ (IsS153.ge HI1149.out)) | exact HB.out))
     rintro e w17 ⟨rfl, hi, hb, hk⟩
     refine ⟨_, rfl, ?_⟩
     have n0_ := Aside0.mk (hb)
     have n1_ := Aside0.mk (hi)
     clear HB
     clear HI1149
     have HB := n0_
     have HI1149 := n1_
     clear n0_ n1_
     (try clear hb)
     (try clear hb2)
     (try clear hk)
     (try clear hi)
     refine hK.out _ _ ⟨v1166, adz_v1166, m14_, (by rw [ha.out]; exact putSel_upk 3 hb_ rfl rfl rfl), fun h0_ => absurd ((hon 3 (by kernel_rfl)).symm.trans h0_) (by decide), (by repeat (first | (with_reducible first | exact HB.out | apply below_alloc | apply pw_below_drewN | apply below_drew1 | refine below_set ?_ (IsS153.ge HI1149.out)) | exact HB.out)), fun _ h1_ => absurd ((hon 5 (by kernel_rfl)).symm.trans h1_) (by decide), fun _ h1_ => absurd ((up_self b 8).symm.trans h1_) (by decide), fun _ _ => (by repeat (first | (with_reducible first | exact HI1149.out | apply IsS153.alloc | apply IsS153.drewN | apply IsS153.drew | apply IsS153.set_1 | apply IsS153.set_2) | exact HI1149.out)), fun h0_ _ => absurd ((hoff 10 (by kernel_rfl)).symm.trans h0_) (by decide), fun h0_ => absurd ((hoff 11 (by kernel_rfl)).symm.trans h0_) (by decide), fun h0_ => absurd ((hoff 11 (by kernel_rfl)).symm.trans h0_) (by decide), fun h0_ => absurd ((hoff 13 (by kernel_rfl)).symm.trans h0_) (by decide), fun h0_ => absurd ((hoff 14 (by kernel_rfl)).symm.trans h0_) (by decide)⟩
    refine steps_cons ?_ ?_
    ·rintro b a w' ⟨v1166, adz_v1166, m14_, ha, Q_HI1149, Q_HB, Q_HI1149_e3, Q_HI1149_e5, Q_HI1149_e8, Q_HI1149_e10, Q_HO1167, Q_HA_HO1167, Q_HI1149_e13, Q_X14_⟩ hb_ hon hoff
     refine ⟨_, rfl, fun K hK => ?_⟩
     have e20 : a.tmps[20]? = some (.pointer (some ⟨g1149, 0, none⟩)) := by rw [ha]; exact (putSel_off rfl).trans rfl
     replace ha := Aside0.mk ha
     have HB := Aside0.mk Q_HB
     have HI1149 := Aside0.mk (Q_HI1149_e8 (hon 8 (by kernel_rfl)) hb_)
     refine goes_ Try.func114 (by kernel_rfl) rfl #[.pointer (some ⟨g1149, 0, none⟩)] (by rfl) rfl rfl (by first | (simp only [List.map_toArray, List.map_cons, List.map_nil, Act.eval, Array.getD_eq_getD_getElem?, Option.getD_some, e20]; done) | (simp only [List.map_toArray, List.map_cons, List.map_nil, Act.eval, Array.getD_eq_getD_getElem?, Option.getD_some, e20]; rfl)) ?_
     with_reducible refine (spec_l01Cur_raw.calls g1149 t1146 t1160 t1161 t1162 t1163 t1164 w _ ?side1 ?side2 A7.out).mono ?_
     (case side1 => repeat (first | (with_reducible first | exact HI1149.out | apply IsS153.alloc | apply IsS153.drewN | apply IsS153.drew | apply IsS153.set_1 | apply IsS153.set_2) | exact HI1149.out))
     (case side2 => repeat (first | (with_reducible first | exact HB.out | apply below_alloc | apply pw_below_drewN | apply below_drew1 | refine below_set ?_ (IsS153.ge HI1149.out)) | exact HB.out))
     rintro e w18 ⟨rfl, hi, hb, hk⟩
     refine ⟨_, rfl, ?_⟩
     have n0_ := Aside0.mk (hb)
     have n1_ := Aside0.mk (hi)
     clear HB
     clear HI1149
     have HB := n0_
     have HI1149 := n1_
     clear n0_ n1_
     (try clear hb)
     (try clear hb2)
     (try clear hk)
     (try clear hi)
     refine hK.out _ _ ⟨v1166, adz_v1166, m14_, (by rw [ha.out]; exact putSel_upk 4 hb_ rfl rfl rfl), fun h0_ => absurd ((hon 3 (by kernel_rfl)).symm.trans h0_) (by decide), (by repeat (first | (with_reducible first | exact HB.out | apply below_alloc | apply pw_below_drewN | apply below_drew1 | refine below_set ?_ (IsS153.ge HI1149.out)) | exact HB.out)), fun _ h1_ => absurd ((hon 5 (by kernel_rfl)).symm.trans h1_) (by decide), fun _ h1_ => absurd ((hon 8 (by kernel_rfl)).symm.trans h1_) (by decide), fun _ h1_ => absurd ((up_self b 10).symm.trans h1_) (by decide), fun _ _ => (by repeat (first | (with_reducible first | exact HI1149.out | apply IsS153.alloc | apply IsS153.drewN | apply IsS153.drew | apply IsS153.set_1 | apply IsS153.set_2) | exact HI1149.out)), fun h0_ => absurd ((hoff 11 (by kernel_rfl)).symm.trans h0_) (by decide), fun h0_ => absurd ((hoff 11 (by kernel_rfl)).symm.trans h0_) (by decide), fun h0_ => absurd ((hoff 13 (by kernel_rfl)).symm.trans h0_) (by decide), fun h0_ => absurd ((hoff 14 (by kernel_rfl)).symm.trans h0_) (by decide)⟩
    refine steps_cons ?_ ?_
    ·rintro b a w' ⟨v1166, adz_v1166, m14_, ha, Q_HI1149, Q_HB, Q_HI1149_e3, Q_HI1149_e5, Q_HI1149_e8, Q_HI1149_e10, Q_HO1167, Q_HA_HO1167, Q_HI1149_e13, Q_X14_⟩ hb_ hon hoff
     refine ⟨_, rfl, fun K hK => ?_⟩
     have e17 : a.tmps[17]? = some (.int .i64 (wrap64 (1 + t1156))) := by rw [ha]; exact putSel_on (e := (6, 17, .int .i64 (wrap64 (1 + t1156)))) 2 rfl rfl (hon 6 (by kernel_rfl)) rfl
     have e19 : a.tmps[19]? = some (.int .i64 t1159) := by rw [ha]; exact putSel_on (e := (8, 19, .int .i64 t1159)) 3 rfl rfl (hon 8 (by kernel_rfl)) rfl
     have e21 : a.tmps[21]? = some (.int .i64 t1162) := by rw [ha]; exact putSel_on (e := (10, 21, .int .i64 t1162)) 4 rfl rfl (hon 10 (by kernel_rfl)) rfl
     replace ha := Aside0.mk ha
     have HB := Aside0.mk Q_HB
     refine Kd.R_lit_step (Kd.int .i64) _ 3 ?hg (N := 22) ?hd (xs := ([wrap64 (1 + t1156), t1159, t1162] : List Int)) (inner := [.int .i64 (wrap64 (1 + t1156)), .int .i64 t1159, .int .i64 t1162]) (ok := fun _ => True) (okp := fun _ => True) ?hr ?hp (fun _ hk => hk) trivial (Below.refl _ _) (Nat.le_refl _) (by simp) ?_; (case hd => rfl); (case hg => rfl); (case hr => first | (go_simp; done) | (go_simp; rfl)); (case hp => exact (Reps.one (show Kd.M (Kd.int .i64) _ _ _ (wrap64 (1 + t1156)) [.int .i64 (wrap64 (1 + t1156))] from rfl) (Reps.one (show Kd.M (Kd.int .i64) _ _ _ t1159 [.int .i64 t1159] from rfl) (Reps.one (show Kd.M (Kd.int .i64) _ _ _ t1162 [.int .i64 t1162] from rfl) (Reps.none _ _)))))
     intro v1166 w19 ho20 hb hg_ hnew_
     clear hg_ hnew_
     (first | rw [← Ny1165.out] at ho20 | (simp only [Int.reduceToNat] at ho20; rw [← Ny1165.out] at ho20))
     have n0_ := Aside0.mk (Kd.R_lower ho20 (below_size (by repeat (first | (with_reducible first | exact HB.out | apply below_alloc | apply pw_below_drewN | apply below_drew1) | exact HB.out))))
     have n2_ := Aside0.mk (below_step (by repeat (first | (with_reducible first | exact HB.out | apply below_alloc | apply pw_below_drewN | apply below_drew1) | exact HB.out)) hb)
     have z_HI1149_e10 := fun (h0_ : b 10 = true) (h1_ : b 13 = false) => (show IsS153 w w19 g1149 t1146 t1163 t1164 from by first | exact (IsS153.below (by repeat (first | (with_reducible first | exact (Q_HI1149_e10 h0_ h1_) | apply IsS153.alloc | apply IsS153.drewN | apply IsS153.drew | apply IsS153.set_1 | apply IsS153.set_2) | exact (Q_HI1149_e10 h0_ h1_))) hb))
     have z_HI1149_e13 := fun (h0_ : b 13 = true) => (show IsS153 w w19 g1149 t1146 t1169 t1170 from by first | exact (IsS153.below (by repeat (first | (with_reducible first | exact (Q_HI1149_e13 h0_) | apply IsS153.alloc | apply IsS153.drewN | apply IsS153.drew | apply IsS153.set_1 | apply IsS153.set_2) | exact (Q_HI1149_e13 h0_))) hb))
     clear HB
     have HO1167 := n0_
     have HB := n2_
     clear n0_ n2_
     clear hb ho20
     obtain ⟨Ao21, co21, eo21⟩ := Kd.R_slice HO1167.out
     subst eo21
     obtain ⟨ado21, fo21, _⟩ := Kd.at_int (Kd.R_reads' HO1167.out).2.2 0 (by decide) (by rw [Ny1165.out]; simp)
     cases fo21
     refine hK.out _ _ ⟨.slice (some ado21) y1165.length co21, ado21, m14_, (by rw [ha.out]; exact putSel_upk 5 hb_ rfl rfl rfl), fun h0_ => absurd ((hon 3 (by kernel_rfl)).symm.trans h0_) (by decide), (by repeat (first | (with_reducible first | exact HB.out | apply below_alloc | apply pw_below_drewN | apply below_drew1) | exact HB.out)), fun _ h1_ => absurd ((hon 5 (by kernel_rfl)).symm.trans h1_) (by decide), fun _ h1_ => absurd ((hon 8 (by kernel_rfl)).symm.trans h1_) (by decide), fun _ h1_ => absurd ((hon 10 (by kernel_rfl)).symm.trans h1_) (by decide), z_HI1149_e10, fun _ => (by (with_reducible repeat (first | apply Kd.R_alloc | apply Kd.R_drewN | apply Kd.R_drew)); exact HO1167.out), fun _ => ⟨_, rfl⟩, z_HI1149_e13, fun h0_ => absurd ((hoff 14 (by kernel_rfl)).symm.trans h0_) (by decide)⟩
    refine steps_cons ?_ ?_
    ·rintro b a w' ⟨v1166, adz_v1166, m14_, ha, Q_HI1149, Q_HB, Q_HI1149_e3, Q_HI1149_e5, Q_HI1149_e8, Q_HI1149_e10, Q_HO1167, Q_HA_HO1167, Q_HI1149_e13, Q_X14_⟩ hb_ hon hoff
     refine ⟨_, rfl, fun K hK => ?_⟩
     have e23 : a.tmps[23]? = some (.pointer (some ⟨g1149, 0, none⟩)) := by rw [ha]; exact (putSel_off rfl).trans rfl
     replace ha := Aside0.mk ha
     have HB := Aside0.mk Q_HB
     have HI1149 := Aside0.mk (Q_HI1149_e10 (hon 10 (by kernel_rfl)) hb_)
     refine goes_ Try.func113 (by kernel_rfl) rfl #[.pointer (some ⟨g1149, 0, none⟩), .int .i64 3] (by rfl) rfl rfl (by first | (simp only [List.map_toArray, List.map_cons, List.map_nil, Act.eval, Array.getD_eq_getD_getElem?, Option.getD_some, e23]; done) | (simp only [List.map_toArray, List.map_cons, List.map_nil, Act.eval, Array.getD_eq_getD_getElem?, Option.getD_some, e23]; rfl)) ?_
     with_reducible refine (spec_l01Cur_pick.calls g1149 t1146 t1163 t1164 3 t1168 t1169 t1170 w _ ?side1 ?side2 A8.out).mono ?_
     (case side1 => repeat (first | (with_reducible first | exact HI1149.out | apply IsS153.alloc | apply IsS153.drewN | apply IsS153.drew | apply IsS153.set_1 | apply IsS153.set_2) | exact HI1149.out))
     (case side2 => repeat (first | (with_reducible first | exact HB.out | apply below_alloc | apply pw_below_drewN | apply below_drew1 | refine below_set ?_ (IsS153.ge HI1149.out)) | exact HB.out))
     rintro e w19 ⟨rfl, hi, hb, hk⟩
     refine ⟨_, rfl, ?_⟩
     have n0_ := Aside0.mk (hb)
     have n1_ := Aside0.mk (hi)
     have z_HO1167 := fun (h0_ : b 11 = true) => (show Kd.R (Kd.int .i64) 3 w19 w.heap.size (fun _ => True) v1166 y1165 from by first | exact (Kd.R_mono (Kd.R_keep (IsS153.apart (show IsS153 w _ g1149 t1146 t1163 t1164 from by repeat (first | (with_reducible first | exact HI1149.out | apply IsS153.alloc | apply IsS153.drewN | apply IsS153.drew | apply IsS153.set_1 | apply IsS153.set_2) | exact HI1149.out)) (by (with_reducible repeat (first | apply Kd.R_alloc | apply Kd.R_drewN | apply Kd.R_drew)); exact (Q_HO1167 h0_)) (by decide)) hk (fun _ h => h.2)) (fun _ h => h.1)) | exact Kd.R_mono (Kd.R_mono (Kd.R_keep (IsS153.apart (show IsS153 w _ g1149 t1146 t1163 t1164 from by repeat (first | (with_reducible first | exact HI1149.out | apply IsS153.alloc | apply IsS153.drewN | apply IsS153.drew | apply IsS153.set_1 | apply IsS153.set_2) | exact HI1149.out)) (by (with_reducible repeat (first | apply Kd.R_alloc | apply Kd.R_drewN | apply Kd.R_drew)); exact (Q_HO1167 h0_)) (by decide)) hk (fun _ h => h.2)) (fun _ h => h.1)) (fun _ h_ => by first | trivial | exact h_ | exact h_.1))
     clear HB
     clear HI1149
     have HB := n0_
     have HI1149 := n1_
     clear n0_ n1_
     (try clear hb)
     (try clear hb2)
     (try clear hk)
     (try clear hi)
     refine hK.out _ _ ⟨v1166, adz_v1166, m14_, (by rw [ha.out]; exact putSel_upk 6 hb_ rfl rfl rfl), fun h0_ => absurd ((hon 3 (by kernel_rfl)).symm.trans h0_) (by decide), (by repeat (first | (with_reducible first | exact HB.out | apply below_alloc | apply pw_below_drewN | apply below_drew1 | refine below_set ?_ (IsS153.ge HI1149.out)) | exact HB.out)), fun _ h1_ => absurd ((hon 5 (by kernel_rfl)).symm.trans h1_) (by decide), fun _ h1_ => absurd ((hon 8 (by kernel_rfl)).symm.trans h1_) (by decide), fun _ h1_ => absurd ((hon 10 (by kernel_rfl)).symm.trans h1_) (by decide), fun _ h1_ => absurd ((up_self b 13).symm.trans h1_) (by decide), z_HO1167, Q_HA_HO1167, fun _ => (by repeat (first | (with_reducible first | exact HI1149.out | apply IsS153.alloc | apply IsS153.drewN | apply IsS153.drew | apply IsS153.set_1 | apply IsS153.set_2) | exact HI1149.out)), fun h0_ => absurd ((hoff 14 (by kernel_rfl)).symm.trans h0_) (by decide)⟩
    refine steps_cons ?_ ?_
    ·rintro b a w' ⟨v1166, adz_v1166, m14_, ha, Q_HI1149, Q_HB, Q_HI1149_e3, Q_HI1149_e5, Q_HI1149_e8, Q_HI1149_e10, Q_HO1167, Q_HA_HO1167, Q_HI1149_e13, Q_X14_⟩ hb_ hon hoff
     refine ⟨_, rfl, fun K hK => ?_⟩
     have e22 : a.tmps[22]? = some (v1166) := by rw [ha]; exact putSel_on (e := (11, 22, v1166)) 5 rfl rfl (hon 11 (by kernel_rfl)) rfl
     have e24 : a.tmps[24]? = some (.int .i64 t1168) := by rw [ha]; exact putSel_on (e := (13, 24, .int .i64 t1168)) 6 rfl rfl (hon 13 (by kernel_rfl)) rfl
     replace ha := Aside0.mk ha
     have HB := Aside0.mk Q_HB
     have HO1167 := Aside0.mk (Q_HO1167 (hon 11 (by kernel_rfl)))
     have HA_HO1167 := Aside0.mk (Q_HA_HO1167 (hon 11 (by kernel_rfl)))
     have HI1149 := Aside0.mk (Q_HI1149_e13 (hon 13 (by kernel_rfl)))
     obtain ⟨c_, hv_⟩ := HA_HO1167.out
     rw [hv_] at e22
     refine value_ (w1 := w') (v := .pointer (some (adz_v1166.add (t1168).toNat))) (by rfl) rfl ?_ ?_
     ·go_simp
      (try simp only [i64_w])
      try rfl
     refine hK.out _ _ ⟨v1166, adz_v1166, (.pointer (some (adz_v1166.add (t1168).toNat))), (by rw [ha.out]; exact putSel_upk 7 hb_ rfl rfl rfl), fun h0_ => absurd ((hon 3 (by kernel_rfl)).symm.trans h0_) (by decide), Q_HB, fun _ h1_ => absurd ((hon 5 (by kernel_rfl)).symm.trans h1_) (by decide), fun _ h1_ => absurd ((hon 8 (by kernel_rfl)).symm.trans h1_) (by decide), fun _ h1_ => absurd ((hon 10 (by kernel_rfl)).symm.trans h1_) (by decide), fun _ h1_ => absurd ((hon 13 (by kernel_rfl)).symm.trans h1_) (by decide), Q_HO1167, Q_HA_HO1167, Q_HI1149_e13, fun _ => rfl⟩
    refine steps_cons ?_ ?_
    ·rintro b a w' ⟨v1166, adz_v1166, m14_, ha, Q_HI1149, Q_HB, Q_HI1149_e3, Q_HI1149_e5, Q_HI1149_e8, Q_HI1149_e10, Q_HO1167, Q_HA_HO1167, Q_HI1149_e13, Q_X14_⟩ hb_ hon hoff
     refine ⟨_, rfl, fun K hK => ?_⟩
     have e25 : a.tmps[25]? = some (m14_) := by rw [ha]; exact putSel_on (e := (14, 25, m14_)) 7 rfl rfl (hon 14 (by kernel_rfl)) rfl
     rw [Q_X14_ (hon 14 (by kernel_rfl))] at e25
     replace ha := Aside0.mk ha
     have HB := Aside0.mk Q_HB
     have HO1167 := Aside0.mk (Q_HO1167 (hon 11 (by kernel_rfl)))
     have HA_HO1167 := Aside0.mk (Q_HA_HO1167 (hon 11 (by kernel_rfl)))
     have HI1149 := Aside0.mk (Q_HI1149_e13 (hon 13 (by kernel_rfl)))
     obtain ⟨c_, hv_⟩ := HA_HO1167.out
     have hF_ := HO1167.out
     rw [hv_] at hF_
     obtain ⟨ad_, ea_, hx_⟩ := Kd.at_int (Kd.R_reads' hF_).2.2 t1168 (of_eq_true pi1171) (of_eq_true qi1171)
     cases ea_
     refine value_ (w1 := w') (v := .int .i64 (rd y1165 t1168)) (by rfl) rfl ?_ ?_
     ·go_simp
      (try simp only [i64_w])
      try rfl
     refine hK.out _ _ ⟨v1166, adz_v1166, m14_, (by rw [ha.out]; exact putSel_upk 8 hb_ rfl rfl rfl), fun h0_ => absurd ((hon 3 (by kernel_rfl)).symm.trans h0_) (by decide), Q_HB, fun _ h1_ => absurd ((hon 5 (by kernel_rfl)).symm.trans h1_) (by decide), fun _ h1_ => absurd ((hon 8 (by kernel_rfl)).symm.trans h1_) (by decide), fun _ h1_ => absurd ((hon 10 (by kernel_rfl)).symm.trans h1_) (by decide), fun _ h1_ => absurd ((hon 13 (by kernel_rfl)).symm.trans h1_) (by decide), Q_HO1167, Q_HA_HO1167, Q_HI1149_e13, Q_X14_⟩
    refine steps_cons ?_ ?_
    ·rintro b a w' ⟨v1166, adz_v1166, m14_, ha, Q_HI1149, Q_HB, Q_HI1149_e3, Q_HI1149_e5, Q_HI1149_e8, Q_HI1149_e10, Q_HO1167, Q_HA_HO1167, Q_HI1149_e13, Q_X14_⟩ hb_ hon hoff
     refine ⟨_, rfl, fun K hK => ?_⟩
     have e11 : a.tmps[11]? = some (.int .u32 t1150) := by rw [ha]; exact (putSel_off rfl).trans rfl
     replace ha := Aside0.mk ha
     have HB := Aside0.mk Q_HB
     have HI1149 := Aside0.mk (Q_HI1149_e13 (hon 13 (by kernel_rfl)))
     refine value_ (w1 := w') (v := .int .u32 t1150) (by rfl) rfl ?_ ?_
     ·go_simp
      (try simp only [i64_w])
      try rfl
     refine hK.out _ _ ⟨v1166, adz_v1166, m14_, (by rw [ha.out]; exact putSel_upk 9 hb_ rfl rfl rfl), fun h0_ => absurd ((hon 3 (by kernel_rfl)).symm.trans h0_) (by decide), Q_HB, fun _ h1_ => absurd ((hon 5 (by kernel_rfl)).symm.trans h1_) (by decide), fun _ h1_ => absurd ((hon 8 (by kernel_rfl)).symm.trans h1_) (by decide), fun _ h1_ => absurd ((hon 10 (by kernel_rfl)).symm.trans h1_) (by decide), fun _ h1_ => absurd ((hon 13 (by kernel_rfl)).symm.trans h1_) (by decide), Q_HO1167, Q_HA_HO1167, Q_HI1149_e13, Q_X14_⟩
    refine steps_cons ?_ ?_
    ·rintro b a w' ⟨v1166, adz_v1166, m14_, ha, Q_HI1149, Q_HB, Q_HI1149_e3, Q_HI1149_e5, Q_HI1149_e8, Q_HI1149_e10, Q_HO1167, Q_HA_HO1167, Q_HI1149_e13, Q_X14_⟩ hb_ hon hoff
     refine ⟨_, rfl, fun K hK => ?_⟩
     have e14 : a.tmps[14]? = some (.int .i64 t1153) := by rw [ha]; exact putSel_on (e := (3, 14, .int .i64 t1153)) 0 rfl rfl (hon 3 (by kernel_rfl)) rfl
     replace ha := Aside0.mk ha
     have HB := Aside0.mk Q_HB
     have HI1149 := Aside0.mk (Q_HI1149_e13 (hon 13 (by kernel_rfl)))
     refine value_ (w1 := w') (v := .int .i64 t1153) (by rfl) rfl ?_ ?_
     ·go_simp
      (try simp only [i64_w])
      try rfl
     refine hK.out _ _ ⟨v1166, adz_v1166, m14_, (by rw [ha.out]; exact putSel_upk 10 hb_ rfl rfl rfl), fun h0_ => absurd ((hon 3 (by kernel_rfl)).symm.trans h0_) (by decide), Q_HB, fun _ h1_ => absurd ((hon 5 (by kernel_rfl)).symm.trans h1_) (by decide), fun _ h1_ => absurd ((hon 8 (by kernel_rfl)).symm.trans h1_) (by decide), fun _ h1_ => absurd ((hon 10 (by kernel_rfl)).symm.trans h1_) (by decide), fun _ h1_ => absurd ((hon 13 (by kernel_rfl)).symm.trans h1_) (by decide), Q_HO1167, Q_HA_HO1167, Q_HI1149_e13, Q_X14_⟩
    refine steps_cons ?_ ?_
    ·rintro b a w' ⟨v1166, adz_v1166, m14_, ha, Q_HI1149, Q_HB, Q_HI1149_e3, Q_HI1149_e5, Q_HI1149_e8, Q_HI1149_e10, Q_HO1167, Q_HA_HO1167, Q_HI1149_e13, Q_X14_⟩ hb_ hon hoff
     refine ⟨_, rfl, fun K hK => ?_⟩
     have e26 : a.tmps[26]? = some (.int .i64 (rd y1165 t1168)) := by rw [ha]; exact putSel_on (e := (15, 26, .int .i64 (rd y1165 t1168))) 8 rfl rfl (hon 15 (by kernel_rfl)) rfl
     replace ha := Aside0.mk ha
     have HB := Aside0.mk Q_HB
     have HO1167 := Aside0.mk (Q_HO1167 (hon 11 (by kernel_rfl)))
     have HA_HO1167 := Aside0.mk (Q_HA_HO1167 (hon 11 (by kernel_rfl)))
     have HI1149 := Aside0.mk (Q_HI1149_e13 (hon 13 (by kernel_rfl)))
     refine value_ (w1 := w') (v := .int .i64 (rd y1165 t1168)) (by rfl) rfl ?_ ?_
     ·go_simp
      (try simp only [i64_w])
      try rfl
     refine hK.out _ _ ⟨v1166, adz_v1166, m14_, (by rw [ha.out]; exact putSel_upk 11 hb_ rfl rfl rfl), fun h0_ => absurd ((hon 3 (by kernel_rfl)).symm.trans h0_) (by decide), Q_HB, fun _ h1_ => absurd ((hon 5 (by kernel_rfl)).symm.trans h1_) (by decide), fun _ h1_ => absurd ((hon 8 (by kernel_rfl)).symm.trans h1_) (by decide), fun _ h1_ => absurd ((hon 10 (by kernel_rfl)).symm.trans h1_) (by decide), fun _ h1_ => absurd ((hon 13 (by kernel_rfl)).symm.trans h1_) (by decide), Q_HO1167, Q_HA_HO1167, Q_HI1149_e13, Q_X14_⟩
    exact steps_nil
   rintro b a w22 hall ⟨v1166, adz_v1166, m14_, ha, Q_HI1149, Q_HB, Q_HI1149_e3, Q_HI1149_e5, Q_HI1149_e8, Q_HI1149_e10, Q_HO1167, Q_HA_HO1167, Q_HI1149_e13, Q_X14_⟩
   clear HB HI1149
   have hb3_ := hall 3 (by kernel_rfl)
   have hb5_ := hall 5 (by kernel_rfl)
   have hb6_ := hall 6 (by kernel_rfl)
   have hb8_ := hall 8 (by kernel_rfl)
   have hb10_ := hall 10 (by kernel_rfl)
   have hb11_ := hall 11 (by kernel_rfl)
   have hb13_ := hall 13 (by kernel_rfl)
   have hb14_ := hall 14 (by kernel_rfl)
   have hb15_ := hall 15 (by kernel_rfl)
   have hb16_ := hall 16 (by kernel_rfl)
   have hb17_ := hall 17 (by kernel_rfl)
   have hb18_ := hall 18 (by kernel_rfl)
   subst ha
   obtain rfl := Q_X14_ hb14_
   simp only [putSel, hb3_, hb5_, hb6_, hb8_, hb10_, hb11_, hb13_, hb14_, hb15_, hb16_, hb17_, hb18_, if_true, Act.put, List.setIfInBounds_toArray, List.set_cons_zero, List.set_cons_succ]
   clear Q_HI1149
   have HB := Aside0.mk Q_HB
   clear Q_HB
   clear Q_HI1149_e3
   clear Q_HI1149_e5
   clear Q_HI1149_e8
   clear Q_HI1149_e10
   have HO1167 := Aside0.mk (Q_HO1167 hb11_)
   clear Q_HO1167
   have HA_HO1167 := Aside0.mk (Q_HA_HO1167 hb11_)
   clear Q_HA_HO1167
   have HI1149 := Aside0.mk (Q_HI1149_e13 hb13_)
   clear Q_HI1149_e13
   clear hall hb3_ hb5_ hb6_ hb8_ hb10_ hb11_ hb13_ hb14_ hb15_ hb16_ hb17_ hb18_
   obtain ⟨co23, eo23⟩ := HA_HO1167.out
   clear HA_HO1167
   subst eo23
   try go_wp2
   go_ret3
   exact ⟨by first | rfl | (simp only [i64_w, i32_w] <;> rfl) | (simp [errW_none, errW_some] <;> rfl) | (simp [*, errW_none, errW_some] <;> rfl), by repeat (first | (with_reducible first | exact HB.out | apply below_alloc | apply pw_below_drewN | apply below_drew1 | refine below_set ?_ (IsS153.ge HI1149.out)) | exact HB.out)⟩
  ·rw [if_neg c10] at H
   exact absurd H (by simp)
 ·rw [if_neg c9] at H
  exact absurd H (by simp)

/-! ### laws_same: function 62 -/
def laws_same.l0 : Nat → List Int → List Int → Int → Option (Bool)
 | 0, _, _, _ => none
 | k + 1, x0, x1, x5 => if x5 < (x0.length : Int) then (if 0 ≤ x5 then (if x5 < (x1.length : Int) then (if (rd x0 x5) = (rd x1 x5) then (laws_same.l0 k x0 x1 (wrap64 (x5 + 1))) else (some false)) else (none)) else (none)) else (some true)
def laws_same.f (k : Nat) (l0 : List Int) (l1 : List Int) : Option (Bool) := if (l0.length : Int) = (l1.length : Int) then (laws_same.l0 k l0 l1 0) else (some false)
theorem laws_same.mono_l : ∀ k, (∀ y0 y1 y2, LeO (laws_same.l0 k y0 y1 y2) (laws_same.l0 (k + 1) y0 y1 y2))
 | 0 => fun _ _ _ r h => by simp [laws_same.l0] at h
 | k + 1 => by
  have ih0 := laws_same.mono_l k
  ·intro y0 y1 y2
   unfold laws_same.l0
   repeat' first
   | (with_reducible exact ih0 _ _ _)
   | (with_reducible exact LeO.refl _)
   | (with_reducible exact LeO.none _)
   | (with_reducible refine LeO.ite ?_ ?_)
   | (with_reducible refine LeO.bind ?_ (fun _ => ?_))
   | exact ih0 _ _ _
   | exact LeO.none _
   | refine LeO.ite ?_ ?_
   | refine LeO.bind ?_ (fun _ => ?_)
theorem laws_same.mono : ∀ a0 a1 k, LeO (laws_same.f k a0 a1) (laws_same.f (k + 1) a0 a1) := by
 intro a0 a1 k
 have ih0 := laws_same.mono_l k
 unfold laws_same.f
 repeat' first
   | (with_reducible exact ih0 _ _ _)
   | (with_reducible exact LeO.refl _)
   | (with_reducible exact LeO.none _)
   | (with_reducible refine LeO.ite ?_ ?_)
   | (with_reducible refine LeO.bind ?_ (fun _ => ?_))
   | exact ih0 _ _ _
   | exact LeO.none _
   | refine LeO.ite ?_ ?_
   | refine LeO.bind ?_ (fun _ => ?_)
set_option maxHeartbeats 8000000 in
set_option maxRecDepth 100000 in
theorem laws_same.calls (k : Nat) (A0 : Option Addr) (c0 : Nat) (l0 : List Int) (A1 : Option Addr) (c1 : Nat) (l1 : List Int) (r : Bool) (w : World) (hr0 : Kd.C (Kd.int .i64) w A0 l0.length l0) (hc0 : l0.length ≤ c0) (hr1 : Kd.C (Kd.int .i64) w A1 l1.length l1) (hc1 : l1.length ≤ c1) (h : laws_same.f k l0 l1 = some r) :
  Calls Try.prog 62 #[.slice A0 l0.length c0, .slice A1 l1.length c1] w fun e w' => e = .returned (.bool r) ∧ Drawn0 w w' := by
 have HR0 := Aside0.mk hr0
 have HC0 := Aside0.mk hc0
 clear hr0 hc0
 have HR1 := Aside0.mk hr1
 have HC1 := Aside0.mk hc1
 clear hr1 hc1
 unfold laws_same.f at h
 have H := h
 clear h
 by_cases c3 : (l0.length : Int) = (l1.length : Int)
 ·rw [if_pos c3] at H
  have c3b0 : ((l0.length : Int) == (l1.length : Int)) = true := beq_iff_eq.mpr c3
  have c3b1 : ((l0.length : Int) != (l1.length : Int)) = false := bne_eq_false_iff_eq.mpr c3
  have c3b2 : (l0.length == l1.length) = true := by first | simpa using c3 | (simp at c3 ⊢; omega)
  clear c3
  have H' := Aside0.mk H
  clear H
  go_enter Try.func62, Try.ntmps62
  go_wp2
  repeat (go_quiet (fail); try go_wp2)
  go_loopg [5] k (fun kq v5 w' => ∃ (x5_1 : Int), v5 = .int .i64 x5_1 ∧ Aside0 (laws_same.l0 kq l0 l1 x5_1 = some r) ∧ Aside0 (kq ≤ k) ∧ Drawn0 w w')
  case atStart => exact ⟨(0), (by first | rfl | (simp; done) | (simp [*]; done) | (simp; rw [Int.tdiv_eq_ediv_of_nonneg (by omega)])), H', ⟨Nat.le_refl _⟩, by repeat (first | exact Drawn0.refl _ | apply Drawn0.step)⟩
  case round =>
   clear H'
   try clear c1
   try clear p2
   try clear c3
   try clear c3b0
   try clear c3b1
   try clear c3b2
   obtain ⟨x5_1, rfl, HA, HK1, ⟨m1, rfl⟩⟩ := hrel
   cases gk with
   | zero => exact absurd HA.out (by simp [laws_same.l0])
   | succ k1 =>
    have H := HA.out
    clear HA
    simp only [laws_same.l0] at H
    by_cases c4 : x5_1 < (l0.length : Int)
    ·rw [if_pos c4] at H
     have c4b0 : decide (x5_1 < (l0.length : Int)) = true := decide_eq_true c4
     clear c4
     by_cases c5 : 0 ≤ x5_1
     ·rw [if_pos c5] at H
      have c5b0 : decide (0 ≤ x5_1) = true := decide_eq_true c5
      clear c5
      by_cases c6 : x5_1 < (l1.length : Int)
      ·rw [if_pos c6] at H
       have c6b0 : decide (x5_1 < (l1.length : Int)) = true := decide_eq_true c6
       clear c6
       by_cases c7 : (rd l0 x5_1) = (rd l1 x5_1)
       ·rw [if_pos c7] at H
        have c7b0 : ((rd l0 x5_1) == (rd l1 x5_1)) = true := beq_iff_eq.mpr c7
        have c7b1 : ((rd l0 x5_1) != (rd l1 x5_1)) = false := bne_eq_false_iff_eq.mpr c7
        clear c7
        have H' := Aside0.mk H
        clear H
        have p1172 : 0 ≤ (x5_1 : Int) := of_decide_eq_true (by first | (with_reducible assumption) | assumption)
        have q1172 : x5_1 < (l0.length : Int) := of_decide_eq_true (by first | (with_reducible assumption) | assumption)
        obtain ⟨ad1172, e1172, hx1172_0⟩ := Kd.at_int HR0.out x5_1 p1172 q1172
        cases e1172
        replace p1172 := eq_true p1172
        replace q1172 := eq_true q1172
        have p1173 : 0 ≤ (x5_1 : Int) := of_decide_eq_true (by first | (with_reducible assumption) | assumption)
        have q1173 : x5_1 < (l1.length : Int) := of_decide_eq_true (by first | (with_reducible assumption) | assumption)
        obtain ⟨ad1173, e1173, hx1173_0⟩ := Kd.at_int HR1.out x5_1 p1173 q1173
        cases e1173
        replace p1173 := eq_true p1173
        replace q1173 := eq_true q1173
        go_wp2
        repeat (go_quiet (fail); try go_wp2)
        go_roundg k1
        case measure => have := HK1.out; omega
        case rel => exact ⟨(wrap64 (x5_1 + 1)), (by first | rfl | (simp; done) | (simp [*]; done) | (simp; rw [Int.tdiv_eq_ediv_of_nonneg (by omega)])), H', ⟨by have := HK1.out; omega⟩, by repeat (first | exact Drawn0.refl _ | apply Drawn0.step)⟩
       ·rw [if_neg c7] at H
        have c7b0 : ((rd l0 x5_1) == (rd l1 x5_1)) = false := beq_eq_false_iff_ne.mpr c7
        have c7b1 : ((rd l0 x5_1) != (rd l1 x5_1)) = true := bne_iff_ne.mpr c7
        obtain rfl := Option.some.inj H
        have p1172 : 0 ≤ (x5_1 : Int) := of_decide_eq_true (by first | (with_reducible assumption) | assumption)
        have q1172 : x5_1 < (l0.length : Int) := of_decide_eq_true (by first | (with_reducible assumption) | assumption)
        obtain ⟨ad1172, e1172, hx1172_0⟩ := Kd.at_int HR0.out x5_1 p1172 q1172
        cases e1172
        replace p1172 := eq_true p1172
        replace q1172 := eq_true q1172
        have p1173 : 0 ≤ (x5_1 : Int) := of_decide_eq_true (by first | (with_reducible assumption) | assumption)
        have q1173 : x5_1 < (l1.length : Int) := of_decide_eq_true (by first | (with_reducible assumption) | assumption)
        obtain ⟨ad1173, e1173, hx1173_0⟩ := Kd.at_int HR1.out x5_1 p1173 q1173
        cases e1173
        replace p1173 := eq_true p1173
        replace q1173 := eq_true q1173
        go_wp2
        repeat (go_quiet (fail); try go_wp2)
        go_ret
        exact ⟨by first | rfl | (simp; done) | (simp [*]; done) | (simp; rw [Int.tdiv_eq_ediv_of_nonneg (by omega)]), by repeat (first | exact Drawn0.refl _ | apply Drawn0.step)⟩
      ·rw [if_neg c6] at H
       exact absurd H (by simp)
     ·rw [if_neg c5] at H
      exact absurd H (by simp)
    ·rw [if_neg c4] at H
     have c4b0 : decide (x5_1 < (l0.length : Int)) = false := decide_eq_false c4
     clear c4
     obtain rfl := Option.some.inj H
     go_wp2
     repeat (go_quiet (fail); try go_wp2)
     go_ret
     exact ⟨by first | rfl | (simp; done) | (simp [*]; done) | (simp; rw [Int.tdiv_eq_ediv_of_nonneg (by omega)]), by repeat (first | exact Drawn0.refl _ | apply Drawn0.step)⟩
 ·rw [if_neg c3] at H
  have c3b0 : ((l0.length : Int) == (l1.length : Int)) = false := beq_eq_false_iff_ne.mpr c3
  have c3b1 : ((l0.length : Int) != (l1.length : Int)) = true := bne_iff_ne.mpr c3
  have c3b2 : (l0.length == l1.length) = false := by first | simpa using c3 | (simp at c3 ⊢; omega)
  obtain rfl := Option.some.inj H
  go_enter Try.func62, Try.ntmps62
  go_wp2
  repeat (go_quiet (fail); try go_wp2)
  go_ret
  exact ⟨by first | rfl | (simp; done) | (simp [*]; done) | (simp; rw [Int.tdiv_eq_ediv_of_nonneg (by omega)]), by repeat (first | exact Drawn0.refl _ | apply Drawn0.step)⟩

end Go.Proofs.Ytmnjppfebaeoiaa.PC2
namespace Go.Proofs.Ytmnjppfebaeoiaa.PC2
open Go.RowKit Go.Proofs.YtmnjppfebaeoiaaW.PrintWords Go.Proofs.YtmnjppfebaeoiaaW.PrintLast Go.Proofs.YtmnjppfebaeoiaaW.PrintMore
attribute [local go_sem] max2_int min2_int max_two min_two max_three min_three max_four min_four   -- for this text's walks alone
set_option linter.unusedVariables false
set_option linter.unusedSimpArgs false

/-! ### spec_TakenWords: function 63 -/
def spec_TakenWords.j0 : Nat → Bool → Bool → Int → Int → Int → Int → Option (Int)
 | 0, _, _, _, _, _, _ => none
 | k + 1, x4, x10, x1180000, x1180001, x1180002, x1180003 => if x10 = true then ((spec_Ones.f k x1180002).bind fun t1180 => ((spec_ClassSize.f k x1180001).bind fun t1181 => (some (wrap64 (t1180 * t1181))))) else (if x4 = true then (if x1180000 = 2 then (some 16) else (some 0)) else (some 0))
def spec_TakenWords.f (k : Nat) (a0 : Int) : Option (Int) := (spec_CtlRead.f k a0).bind fun bt1174 => (if bt1174.2.2.2.2 = true then (spec_TakenWords.j0 k bt1174.2.2.2.2 (bt1174.1 == 1) bt1174.1 bt1174.2.1 bt1174.2.2.1 bt1174.2.2.2.1) else (spec_TakenWords.j0 k bt1174.2.2.2.2 false bt1174.1 bt1174.2.1 bt1174.2.2.1 bt1174.2.2.2.1))
theorem spec_TakenWords.mono_l : ∀ k, (∀ y0 y1 y2 y3 y4 y5, LeO (spec_TakenWords.j0 k y0 y1 y2 y3 y4 y5) (spec_TakenWords.j0 (k + 1) y0 y1 y2 y3 y4 y5))
 | 0 => fun _ _ _ _ _ _ r h => by simp [spec_TakenWords.j0] at h
 | k + 1 => by
  have ih0 := spec_TakenWords.mono_l k
  ·intro y0 y1 y2 y3 y4 y5
   unfold spec_TakenWords.j0
   repeat' first
   | (with_reducible exact ih0 _ _ _ _ _ _)
   | (with_reducible exact spec_ClassSize.mono _ _)
   | (with_reducible exact spec_CtlRead.mono _ _)
   | (with_reducible exact spec_Ones.mono _ _)
   | (with_reducible exact LeO.refl _)
   | (with_reducible exact LeO.none _)
   | (with_reducible refine LeO.ite ?_ ?_)
   | (with_reducible refine LeO.bind ?_ (fun _ => ?_))
   | exact ih0 _ _ _ _ _ _
   | exact spec_ClassSize.mono _ _
   | exact spec_CtlRead.mono _ _
   | exact spec_Ones.mono _ _
   | exact LeO.none _
   | refine LeO.ite ?_ ?_
   | refine LeO.bind ?_ (fun _ => ?_)
theorem spec_TakenWords.mono : ∀ a0 k, LeO (spec_TakenWords.f k a0) (spec_TakenWords.f (k + 1) a0) := by
 intro a0 k
 have ih0 := spec_TakenWords.mono_l k
 unfold spec_TakenWords.f
 repeat' first
   | (with_reducible exact ih0 _ _ _ _ _ _)
   | (with_reducible exact spec_ClassSize.mono _ _)
   | (with_reducible exact spec_CtlRead.mono _ _)
   | (with_reducible exact spec_Ones.mono _ _)
   | (with_reducible exact LeO.refl _)
   | (with_reducible exact LeO.none _)
   | (with_reducible refine LeO.ite ?_ ?_)
   | (with_reducible refine LeO.bind ?_ (fun _ => ?_))
   | exact ih0 _ _ _ _ _ _
   | exact spec_ClassSize.mono _ _
   | exact spec_CtlRead.mono _ _
   | exact spec_Ones.mono _ _
   | exact LeO.none _
   | refine LeO.ite ?_ ?_
   | refine LeO.bind ?_ (fun _ => ?_)
def spec_TakenWords.T3 : Bool × List (List Nat × List Nat) := (true, [([], []), ([0], [0]), ([1], [1]), ([], []), ([3], [3]), ([4, 2], [4]), ([2, 5], [2, 5]), ([6, 5, 0, 1, 2, 3, 4, 5, 6], [6])])
def spec_TakenWords.B3 : List Nat := [0, 1, 3, 0, 8, 31, 63, 127]
theorem spec_TakenWords.tab3 : rtab .any (opsOf Try.f63 3) = spec_TakenWords.T3 := by kernel_rfl
theorem spec_TakenWords.bits3 : waitsOk spec_TakenWords.T3.2 spec_TakenWords.B3 = true := by kernel_rfl
set_option maxHeartbeats 8000000 in
set_option maxRecDepth 100000 in
theorem spec_TakenWords.calls (k : Nat) (a0 : Int) (r : Int) (w : World) (h : spec_TakenWords.f k a0 = some r) :
  Calls Try.prog 63 #[.int .u32 a0] w fun e w' => e = .returned (.int .i64 r) ∧ Below w.heap.size w w' := by
 have hu78 := Try.underlying78
 have HB := Aside0.mk (Below.refl w.heap.size w)
 unfold spec_TakenWords.f at h
 have H := h
 clear h
 replace H := Option.bind_eq_some_iff.mp H
 obtain ⟨⟨t1174, t1175, t1176, t1177, t1178⟩, A20, H⟩ := H
 try dsimp only at H
 have A2 := Aside0.mk A20
 clear A20
 have HC3 := Aside0.mk H
 clear H
 go_enter Try.func63, Try.ntmps63
 go_upto_region 2 with (first | ((with_reducible refine gate_callee (f := 85) rfl ?_); refine goesL_ (some 7) rfl rfl Try.func85 (by kernel_rfl) rfl #[.int .u32 a0] rfl (by (try simp only [List.map_toArray, List.map_cons, List.map_nil]); first | done | rfl | (simp only [List.length_drop, List.length_take]; rfl)) ?_; (with_reducible refine (spec_CtlRead.calls k a0 t1174 t1175 t1176 t1177 t1178 _ A2.out).mono ?_); rintro e w4 ⟨rfl, hb⟩; refine ⟨_, rfl, ?_⟩; have n0_ := Aside0.mk (below_step (by repeat (first | (with_reducible first | exact HB.out | apply below_alloc | apply pw_below_drewN | apply below_drew1) | exact HB.out)) hb); clear HB; have HB := n0_; clear n0_; (try clear hb); (try clear hb2); (try clear hk); (try clear hi)) | ((with_reducible refine gate_dst (N := 3) rfl ?_); refine box_event ?hg (N := 3) ?hd (cs := #[.int .i64 0, .int .i64 0, .int .u32 0, .int .i64 0]) (t := 78) ?hr ?_; (case hd => rfl); (case hg => rfl); (case hr => first | (go_simp; done) | (go_simp; rfl)); intro gb1179 hg w5 hbox hb; have n0_ := Aside0.mk (below_step (by repeat (first | (with_reducible first | exact HB.out | apply below_alloc | apply pw_below_drewN | apply below_drew1) | exact HB.out)) hb); have n1_ := Aside0.mk (hbox); have n2_ := Aside0.mk ((by rw [hg]; exact (below_size (by repeat (first | (with_reducible first | exact HB.out | apply below_alloc | apply pw_below_drewN | apply below_drew1) | exact HB.out))) : w.heap.size ≤ gb1179)); have n3_ := Aside0.mk ((by rw [hg]; exact (below_size (by repeat (first | (with_reducible first | exact HB.out | apply below_alloc | apply pw_below_drewN | apply below_drew1) | exact HB.out))) : w.heap.size ≤ gb1179)); clear HB; have HB := n0_; have BK1179 := n1_; have GW1179 := n2_; have GE1179 := n3_; clear n0_ n1_ n2_ n3_; clear hb hbox hg; have hcz6_0 : w5.cell? ⟨gb1179, 0, none⟩ = some (.int .i64 0) := (blk_cell BK1179.out 0).trans rfl; have hcz6_1 : w5.cell? ⟨gb1179, 1, none⟩ = some (.int .i64 0) := (blk_cell BK1179.out 1).trans rfl; have hcz6_2 : w5.cell? ⟨gb1179, 2, none⟩ = some (.int .u32 0) := (blk_cell BK1179.out 2).trans rfl; have hcz6_3 : w5.cell? ⟨gb1179, 3, none⟩ = some (.int .i64 0) := (blk_cell BK1179.out 3).trans rfl; have hfz6_0 := blk_frozen BK1179.out 0; have hfz6_1 := blk_frozen BK1179.out 1; have hfz6_2 := blk_frozen BK1179.out 2; have hfz6_3 := blk_frozen BK1179.out 3))
 (try simp only [Act.put, List.setIfInBounds_toArray, List.set_cons_zero, List.set_cons_succ])
 go_cut [10] (fun v10 wc => ∃ (kq : Nat) (x10_2 : Bool), v10 = .bool x10_2 ∧ Aside0 (spec_TakenWords.j0 kq t1178 x10_2 t1174 t1175 t1176 t1177 = some r) ∧ Aside0 (kq ≤ k) ∧ Aside0 (wc.heap[gb1179]? = some (.cells #[.int .i64 t1174, .int .i64 t1175, .int .u32 t1176, .int .i64 t1177] 78 (0, 0))) ∧ Aside0 (Below w.heap.size w wc))
 case first =>
  have H := HC3.out
  clear HC3
  by_cases c7 : t1178 = true
  ·subst c7
   (try simp only [Bool.not_true, Bool.not_false])
   rw [if_pos rfl] at H
   have H' := Aside0.mk H
   clear H
   have hcz8_0 : w5.cell? ⟨gb1179, 0, none⟩ = some (.int .i64 0) := (blk_cell BK1179.out 0).trans rfl
   have hcz8_1 : w5.cell? ⟨gb1179, 1, none⟩ = some (.int .i64 0) := (blk_cell BK1179.out 1).trans rfl
   have hcz8_2 : w5.cell? ⟨gb1179, 2, none⟩ = some (.int .u32 0) := (blk_cell BK1179.out 2).trans rfl
   have hcz8_3 : w5.cell? ⟨gb1179, 3, none⟩ = some (.int .i64 0) := (blk_cell BK1179.out 3).trans rfl
   have hfz8_0 := blk_frozen BK1179.out 0
   have hfz8_1 := blk_frozen BK1179.out 1
   have hfz8_2 := blk_frozen BK1179.out 2
   have hfz8_3 := blk_frozen BK1179.out 3
   go_wp2
   go_meet
   case rel => exact ⟨_, ((t1174 == 1)), (by first | rfl | (simp; done) | (simp [*]; done) | (simp; rw [Int.tdiv_eq_ediv_of_nonneg (by omega)])), H', ⟨by first | omega | exact Nat.le_refl _⟩, ⟨by (with_reducible repeat (first | refine blk_drewN ?_ _ | refine blk_drew ?_ | refine blk_alloc ?_ _)); refine blk_put (cs := #[.int .i64 t1174, .int .i64 t1175, .int .u32 t1176, .int .i64 0]) ?_ 3 _ rfl; (with_reducible repeat (first | refine blk_drewN ?_ _ | refine blk_drew ?_ | refine blk_alloc ?_ _)); refine blk_put (cs := #[.int .i64 t1174, .int .i64 t1175, .int .u32 0, .int .i64 0]) ?_ 2 _ rfl; (with_reducible repeat (first | refine blk_drewN ?_ _ | refine blk_drew ?_ | refine blk_alloc ?_ _)); refine blk_put (cs := #[.int .i64 t1174, .int .i64 0, .int .u32 0, .int .i64 0]) ?_ 1 _ rfl; (with_reducible repeat (first | refine blk_drewN ?_ _ | refine blk_drew ?_ | refine blk_alloc ?_ _)); refine blk_put (cs := #[.int .i64 0, .int .i64 0, .int .u32 0, .int .i64 0]) ?_ 0 _ rfl; (with_reducible repeat (first | refine blk_drewN ?_ _ | refine blk_drew ?_ | refine blk_alloc ?_ _)); exact BK1179.out⟩, ⟨by repeat (first | (with_reducible first | exact HB.out | apply below_alloc | apply pw_below_drewN | apply below_drew1 | refine below_set ?_ GE1179.out) | exact HB.out)⟩⟩
  ·replace c7 := Bool.eq_false_iff.mpr c7
   subst c7
   (try simp only [Bool.not_true, Bool.not_false])
   rw [if_neg (show ¬ (false = true) by decide)] at H
   have H' := Aside0.mk H
   clear H
   go_wp2
   go_meet
   case rel => exact ⟨_, (false), (by first | rfl | (simp; done) | (simp [*]; done) | (simp; rw [Int.tdiv_eq_ediv_of_nonneg (by omega)])), H', ⟨by first | omega | exact Nat.le_refl _⟩, ⟨by (with_reducible repeat (first | refine blk_drewN ?_ _ | refine blk_drew ?_ | refine blk_alloc ?_ _)); refine blk_put (cs := #[.int .i64 t1174, .int .i64 t1175, .int .u32 t1176, .int .i64 0]) ?_ 3 _ rfl; (with_reducible repeat (first | refine blk_drewN ?_ _ | refine blk_drew ?_ | refine blk_alloc ?_ _)); refine blk_put (cs := #[.int .i64 t1174, .int .i64 t1175, .int .u32 0, .int .i64 0]) ?_ 2 _ rfl; (with_reducible repeat (first | refine blk_drewN ?_ _ | refine blk_drew ?_ | refine blk_alloc ?_ _)); refine blk_put (cs := #[.int .i64 t1174, .int .i64 0, .int .u32 0, .int .i64 0]) ?_ 1 _ rfl; (with_reducible repeat (first | refine blk_drewN ?_ _ | refine blk_drew ?_ | refine blk_alloc ?_ _)); refine blk_put (cs := #[.int .i64 0, .int .i64 0, .int .u32 0, .int .i64 0]) ?_ 0 _ rfl; (with_reducible repeat (first | refine blk_drewN ?_ _ | refine blk_drew ?_ | refine blk_alloc ?_ _)); exact BK1179.out⟩, ⟨by repeat (first | (with_reducible first | exact HB.out | apply below_alloc | apply pw_below_drewN | apply below_drew1 | refine below_set ?_ GE1179.out) | exact HB.out)⟩⟩
 case rest =>
  clear HC3
  try clear p2
  try clear c6
  try clear c7
  try clear c8
  try clear hcz6_0
  try clear hcz6_1
  try clear hcz6_2
  try clear hcz6_3
  try clear hcz8_0
  try clear hcz8_1
  try clear hcz8_2
  try clear hcz8_3
  try clear hfz6_0
  try clear hfz6_1
  try clear hfz6_2
  try clear hfz6_3
  try clear hfz8_0
  try clear hfz8_1
  try clear hfz8_2
  try clear hfz8_3
  obtain ⟨kq, x10_2, rfl, HA, HJ2, BK1179, HB⟩ := hcut
  cases kq with
  | zero => exact absurd HA.out (by simp [spec_TakenWords.j0])
  | succ kj2 =>
   have H := HA.out
   clear HA
   simp only [spec_TakenWords.j0] at H
   by_cases c9 : x10_2 = true
   ·subst c9
    rw [if_pos rfl] at H
    replace H := Option.bind_eq_some_iff.mp H
    obtain ⟨t1180, A100, H⟩ := H
    try dsimp only at H
    have A10 := Aside0.mk A100
    clear A100
    replace H := Option.bind_eq_some_iff.mp H
    obtain ⟨t1181, A110, H⟩ := H
    try dsimp only at H
    have A11 := Aside0.mk A110
    clear A110
    obtain rfl := Option.some.inj H
    try go_wp2
    have n0_ := Aside0.mk (blk_drew BK1179.out)
    have n1_ := Aside0.mk (below_drew1 HB.out)
    clear BK1179
    clear HB
    have BK1179 := n0_
    have HB := n1_
    clear n0_ n1_
    refine start_ (n := 8) (S := fun w' => w'.cell? ⟨gb1179, 0, none⟩ = some (.int .i64 t1174) ∧ w'.cell? ⟨gb1179, 1, none⟩ = some (.int .i64 t1175) ∧ w'.cell? ⟨gb1179, 2, none⟩ = some (.int .u32 t1176) ∧ w'.cell? ⟨gb1179, 3, none⟩ = some (.int .i64 t1177)) (ds := []) #[false, false, false, false, false, false, false, false] (by kernel_rfl) rfl rfl ⟨(blk_cell BK1179.out 0).trans rfl, (blk_cell BK1179.out 1).trans rfl, (blk_cell BK1179.out 2).trans rfl, (blk_cell BK1179.out 3).trans rfl⟩ (fun hHeld => ?_); refine with_tabW spec_TakenWords.tab3 spec_TakenWords.bits3 (fun HT_ HW_ => ?_)
    generalize wc.drew = w12 at BK1179 HB hHeld ⊢
    refine pure_ (i := 0) (N := some 17) (v := ?_) (a' := ?_) #[true, false, false, false, false, false, false, false] rfl rfl (any_of HT_.out (by kernel_rfl)) (fun _ _ _ h => h) (Or.inl ⟨by rfl, ?_⟩) ?_ ?_
    rotate_left
    ·intro w'
     go_simp
     with_reducible rfl
    rotate_left
    ·simp only [Act.put, List.setIfInBounds_toArray, List.set_cons_zero, List.set_cons_succ, i64_w, i32_w]
     rfl
    refine pure_ (i := 3) (N := some 20) (v := ?_) (a' := ?_) #[true, false, false, true, false, false, false, false] rfl rfl (any_of HT_.out (by kernel_rfl)) (fun _ _ _ h => h) (Or.inl ⟨by rfl, ?_⟩) ?_ ?_
    rotate_left
    ·intro w'
     go_simp
     with_reducible rfl
    rotate_left
    ·simp only [Act.put, List.setIfInBounds_toArray, List.set_cons_zero, List.set_cons_succ, i64_w, i32_w]
     rfl
    refine take_ (i := 1) (N := some 18) (v := ?_) (a' := ?_) #[true, true, false, true, false, false, false, false] rfl rfl (take_ofW HT_.out HW_.out (by kernel_rfl)) (fun _ _ _ h => h) (Or.inl ⟨by rfl, ?_⟩) hHeld ?_ ?_
    rotate_left
    ·rintro w' ⟨s0, s1, s2, s3⟩
     go_simp
     with_reducible rfl
    rotate_left
    ·simp only [Act.put, List.setIfInBounds_toArray, List.set_cons_zero, List.set_cons_succ, i64_w, i32_w]
     rfl
    refine take_ (i := 4) (N := some 21) (v := ?_) (a' := ?_) #[true, true, false, true, true, false, false, false] rfl rfl (take_ofW HT_.out HW_.out (by kernel_rfl)) (fun _ _ _ h => h) (Or.inl ⟨by rfl, ?_⟩) hHeld ?_ ?_
    rotate_left
    ·rintro w' ⟨s0, s1, s2, s3⟩
     go_simp
     with_reducible rfl
    rotate_left
    ·simp only [Act.put, List.setIfInBounds_toArray, List.set_cons_zero, List.set_cons_succ, i64_w, i32_w]
     rfl
    refine one_ (i := 2) (N := some 19) #[true, true, true, true, true, false, false, false] rfl rfl (one_of HT_.out (by kernel_rfl)) (by decide) (fun K hK => ?_)
    refine goes_ Try.func125 (by kernel_rfl) rfl #[.int .u32 t1176] (by rfl) rfl rfl (by (try simp only [List.map_toArray, List.map_cons, List.map_nil]); first | done | rfl | (simp only [List.length_drop, List.length_take]; rfl)) ?_
    with_reducible refine (spec_Ones.calls kj2 t1176 t1180 _ A10.out).mono ?_
    rintro e w13 ⟨rfl, hb⟩
    refine ⟨_, rfl, ?_⟩
    have n0_ := Aside0.mk (blk_below (g := gb1179) (o := .cells #[.int .i64 t1174, .int .i64 t1175, .int .u32 t1176, .int .i64 t1177] 78 (0, 0)) (by (with_reducible repeat (first | refine blk_drewN ?_ _ | refine blk_drew ?_ | refine blk_alloc ?_ _)); exact BK1179.out) hb)
    have n1_ := Aside0.mk (below_step (by repeat (first | (with_reducible first | exact HB.out | apply below_alloc | apply pw_below_drewN | apply below_drew1 | refine below_set ?_ GE1179.out) | exact HB.out)) hb)
    clear BK1179
    clear HB
    have BK1179 := n0_
    have HB := n1_
    clear n0_ n1_
    (try clear hb)
    (try clear hb2)
    (try clear hk)
    (try clear hi)
    refine hK.out _ _ ⟨(blk_cell BK1179.out 0).trans rfl, (blk_cell BK1179.out 1).trans rfl, (blk_cell BK1179.out 2).trans rfl, (blk_cell BK1179.out 3).trans rfl⟩ (fun hHeld => ?_)
    clear hK K
    refine norm_ (a' := ?_) ?_ ?_
    rotate_left
    ·show Act.put _ (some 19) _ = _
     simp only [Act.put, List.setIfInBounds_toArray, List.set_cons_zero, List.set_cons_succ, i64_w, i32_w]
     rfl
    refine one_ (i := 5) (N := some 22) #[true, true, true, true, true, true, false, false] rfl rfl (one_of HT_.out (by kernel_rfl)) (by decide) (fun K hK => ?_)
    refine goes_ Try.func90 (by kernel_rfl) rfl #[.int .i64 t1175] (by rfl) rfl rfl (by (try simp only [List.map_toArray, List.map_cons, List.map_nil]); first | done | rfl | (simp only [List.length_drop, List.length_take]; rfl)) ?_
    with_reducible refine (spec_ClassSize.calls kj2 t1175 t1181 _ A11.out).mono ?_
    rintro e w' ⟨rfl, ⟨nd, rfl⟩⟩
    refine ⟨_, rfl, ?_⟩
    refine hK.out _ _ ⟨(blk_cell BK1179.out 0).trans rfl, (blk_cell BK1179.out 1).trans rfl, (blk_cell BK1179.out 2).trans rfl, (blk_cell BK1179.out 3).trans rfl⟩ (fun hHeld => ?_)
    clear hK K
    refine norm_ (a' := ?_) ?_ ?_
    rotate_left
    ·show Act.put _ (some 22) _ = _
     simp only [Act.put, List.setIfInBounds_toArray, List.set_cons_zero, List.set_cons_succ, i64_w, i32_w]
     rfl
    refine pure_ (i := 6) (N := some 23) (v := ?_) (a' := ?_) #[true, true, true, true, true, true, true, false] rfl rfl (any_of HT_.out (by kernel_rfl)) (fun _ _ _ h => h) (Or.inl ⟨by rfl, ?_⟩) ?_ ?_
    rotate_left
    ·intro w'
     go_simp
     with_reducible rfl
    rotate_left
    ·simp only [Act.put, List.setIfInBounds_toArray, List.set_cons_zero, List.set_cons_succ, i64_w, i32_w]
     rfl
    refine pure_ (i := 7) (N := some 2) (v := ?_) (a' := ?_) #[true, true, true, true, true, true, true, true] rfl rfl (any_of HT_.out (by kernel_rfl)) (fun _ _ _ h => h) (Or.inl ⟨by rfl, ?_⟩) ?_ ?_
    rotate_left
    ·intro w'
     go_simp
     with_reducible rfl
    rotate_left
    ·simp only [Act.put, List.setIfInBounds_toArray, List.set_cons_zero, List.set_cons_succ, i64_w, i32_w]
     rfl
    refine done_ (done_of HT_.out (by kernel_rfl)) ?_
    try go_wp2
    go_ret
    exact ⟨by first | rfl | (simp only [i64_w, i32_w] <;> rfl) | (simp [errW_none, errW_some] <;> rfl) | (simp [*, errW_none, errW_some] <;> rfl), by repeat (first | (with_reducible first | exact HB.out | apply below_alloc | apply pw_below_drewN | apply below_drew1 | refine below_set ?_ GE1179.out) | exact HB.out)⟩
   ·replace c9 := Bool.eq_false_iff.mpr c9
    subst c9
    rw [if_neg (show ¬ (false = true) by decide)] at H
    by_cases c14 : t1178 = true
    ·subst c14
     rw [if_pos rfl] at H
     by_cases c15 : t1174 = 2
     ·rw [if_pos c15] at H
      have c15b0 : (t1174 == 2) = true := beq_iff_eq.mpr c15
      have c15b1 : (t1174 != 2) = false := bne_eq_false_iff_eq.mpr c15
      clear c15
      obtain rfl := Option.some.inj H
      have hcz16_0 : wc.cell? ⟨gb1179, 0, none⟩ = some (.int .i64 t1174) := (blk_cell BK1179.out 0).trans rfl
      have hcz16_1 : wc.cell? ⟨gb1179, 1, none⟩ = some (.int .i64 t1175) := (blk_cell BK1179.out 1).trans rfl
      have hcz16_2 : wc.cell? ⟨gb1179, 2, none⟩ = some (.int .u32 t1176) := (blk_cell BK1179.out 2).trans rfl
      have hcz16_3 : wc.cell? ⟨gb1179, 3, none⟩ = some (.int .i64 t1177) := (blk_cell BK1179.out 3).trans rfl
      have hfz16_0 := blk_frozen BK1179.out 0
      have hfz16_1 := blk_frozen BK1179.out 1
      have hfz16_2 := blk_frozen BK1179.out 2
      have hfz16_3 := blk_frozen BK1179.out 3
      go_wp2
      go_ret
      exact ⟨by first | rfl | (simp only [i64_w, i32_w] <;> rfl) | (simp [errW_none, errW_some] <;> rfl) | (simp [*, errW_none, errW_some] <;> rfl), by repeat (first | (with_reducible first | exact HB.out | apply below_alloc | apply pw_below_drewN | apply below_drew1 | refine below_set ?_ GE1179.out) | exact HB.out)⟩
     ·rw [if_neg c15] at H
      have c15b0 : (t1174 == 2) = false := beq_eq_false_iff_ne.mpr c15
      have c15b1 : (t1174 != 2) = true := bne_iff_ne.mpr c15
      obtain rfl := Option.some.inj H
      have hcz17_0 : wc.cell? ⟨gb1179, 0, none⟩ = some (.int .i64 t1174) := (blk_cell BK1179.out 0).trans rfl
      have hcz17_1 : wc.cell? ⟨gb1179, 1, none⟩ = some (.int .i64 t1175) := (blk_cell BK1179.out 1).trans rfl
      have hcz17_2 : wc.cell? ⟨gb1179, 2, none⟩ = some (.int .u32 t1176) := (blk_cell BK1179.out 2).trans rfl
      have hcz17_3 : wc.cell? ⟨gb1179, 3, none⟩ = some (.int .i64 t1177) := (blk_cell BK1179.out 3).trans rfl
      have hfz17_0 := blk_frozen BK1179.out 0
      have hfz17_1 := blk_frozen BK1179.out 1
      have hfz17_2 := blk_frozen BK1179.out 2
      have hfz17_3 := blk_frozen BK1179.out 3
      go_wp2
      go_ret
      exact ⟨by first | rfl | (simp only [i64_w, i32_w] <;> rfl) | (simp [errW_none, errW_some] <;> rfl) | (simp [*, errW_none, errW_some] <;> rfl), by repeat (first | (with_reducible first | exact HB.out | apply below_alloc | apply pw_below_drewN | apply below_drew1 | refine below_set ?_ GE1179.out) | exact HB.out)⟩
    ·replace c14 := Bool.eq_false_iff.mpr c14
     subst c14
     rw [if_neg (show ¬ (false = true) by decide)] at H
     obtain rfl := Option.some.inj H
     go_wp2
     go_ret
     exact ⟨by first | rfl | (simp only [i64_w, i32_w] <;> rfl) | (simp [errW_none, errW_some] <;> rfl) | (simp [*, errW_none, errW_some] <;> rfl), by repeat (first | (with_reducible first | exact HB.out | apply below_alloc | apply pw_below_drewN | apply below_drew1 | refine below_set ?_ GE1179.out) | exact HB.out)⟩

end Go.Proofs.Ytmnjppfebaeoiaa.PC2
