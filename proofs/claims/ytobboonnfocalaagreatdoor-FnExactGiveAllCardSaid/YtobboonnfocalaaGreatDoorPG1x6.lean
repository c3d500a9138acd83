/- What functions of the program compute, each as a Lean function, and that the run comes to just that. Conditions: none. -/
import Derived.Test.YtobboonnfocalaaGreatDoorTG1
import Derived.Test.YtobboonnfocalaaGreatDoorPG1x0
import Derived.Test.YtobboonnfocalaaGreatDoorPG1x3
import Derived.Test.YtobboonnfocalaaGreatDoorPG1x4
import Derived.Test.YtobboonnfocalaaGreatDoorPG1x5
import Derived.Test.YtobboonnfocalaaGreatDoorIsReqG1
namespace Go.Proofs.YtobboonnfocalaaGreatDoor.PG1
open Go.RowKit Go.Proofs.YtobboonnfocalaaGreatDoorW.PrintWords Go.Proofs.YtobboonnfocalaaGreatDoorW.PrintLast Go.Proofs.YtobboonnfocalaaGreatDoorW.PrintMore Go.Proofs.YtobboonnfocalaaGreatDoor.T
attribute [local go_sem] max2_int min2_int max_two min_two max_three min_three max_four min_four   -- for this text's walks alone
set_option linter.unusedVariables false
set_option linter.unusedSimpArgs false

/-! ### impl_isWarp: function 44 -/
mutual
def impl_isWarp.j0 : Nat → Int → Bool → Int → List Int → List Int → Int → Int → Int → Int → Int → Option (Bool)
 | 0, _, _, _, _, _, _, _, _, _, _ => none
 | k + 1, x1, x26, x557000, x557001, x557002, x557003, x557004, x557005, x557006, x557007 => if x26 = true then (some false) else (if x557000 = 0 then (if x557003 = 0 then (if x557004 = 0 then (if x557005 = 0 then (if x557006 = 0 then (some (x557007 == 0)) else (some false)) else (some false)) else (some false)) else (some false)) else ((impl_isReq.f x557000 x557001).bind fun t560 => (if t560 = true then (if x557003 = 0 then (impl_isWarp.j1 k x1 true x557000 x557001 x557002 x557003 x557004 x557005 x557006 x557007) else ((impl_asks.f k x557000 x557001).bind fun t561 => (if (Go.bits .andNot .u32 x557003 t561) = 0 then (impl_isWarp.j1 k x1 (decide (x557005 < 0)) x557000 x557001 x557002 x557003 x557004 x557005 x557006 x557007) else (impl_isWarp.j1 k x1 true x557000 x557001 x557002 x557003 x557004 x557005 x557006 x557007)))) else (impl_isWarp.j1 k x1 true x557000 x557001 x557002 x557003 x557004 x557005 x557006 x557007))))
def impl_isWarp.j1 : Nat → Int → Bool → Int → List Int → List Int → Int → Int → Int → Int → Int → Option (Bool)
 | 0, _, _, _, _, _, _, _, _, _, _ => none
 | k + 1, x1, x78, x557000, x557001, x557002, x557003, x557004, x557005, x557006, x557007 => if x78 = true then (some false) else (if x557000 = 2 then ((impl_isGiving.f k x557000 x557001 x557002 x557003 x557004 x557005 x557006 x557007 x1).bind fun t562 => (some t562)) else ((impl_Warp_isSmall.f x557000 x557001 x557002 x557003 x557004 x557005 x557006 x557007).bind fun t563 => (if t563 = true then ((impl_isTakingSmall.f k x557000 x557001 x557002 x557003 x557004 x557005 x557006 x557007 x1).bind fun t564 => (some t564)) else ((impl_isTakingLarge.f k x557000 x557001 x557002 x557003 x557004 x557005 x557006 x557007 x1).bind fun t565 => (some t565)))))
end
def impl_isWarp.f (k : Nat) (a0_0 : Int) (l0_1 : List Int) (l0_2 : List Int) (a0_3 : Int) (a0_4 : Int) (a0_5 : Int) (a0_6 : Int) (a0_7 : Int) (a1 : Int) : Option (Bool) := (impl_within.f a1 0 16).bind fun t557 => (if t557 = true then (if (l0_1.length : Int) = 8 then (if (l0_2.length : Int) = 8 then ((impl_isMask.f a0_3).bind fun t558 => (impl_isWarp.j0 k a1 (!t558) a0_0 l0_1 l0_2 a0_3 a0_4 a0_5 a0_6 a0_7)) else (impl_isWarp.j0 k a1 true a0_0 l0_1 l0_2 a0_3 a0_4 a0_5 a0_6 a0_7)) else (impl_isWarp.j0 k a1 true a0_0 l0_1 l0_2 a0_3 a0_4 a0_5 a0_6 a0_7)) else (impl_isWarp.j0 k a1 true a0_0 l0_1 l0_2 a0_3 a0_4 a0_5 a0_6 a0_7))
theorem impl_isWarp.mono_l : ∀ k, (∀ y0 y1 y2 y3 y4 y5 y6 y7 y8 y9, LeO (impl_isWarp.j0 k y0 y1 y2 y3 y4 y5 y6 y7 y8 y9) (impl_isWarp.j0 (k + 1) y0 y1 y2 y3 y4 y5 y6 y7 y8 y9)) ∧ (∀ y0 y1 y2 y3 y4 y5 y6 y7 y8 y9, LeO (impl_isWarp.j1 k y0 y1 y2 y3 y4 y5 y6 y7 y8 y9) (impl_isWarp.j1 (k + 1) y0 y1 y2 y3 y4 y5 y6 y7 y8 y9))
 | 0 => ⟨fun _ _ _ _ _ _ _ _ _ _ r h => by simp [impl_isWarp.j0] at h, fun _ _ _ _ _ _ _ _ _ _ r h => by simp [impl_isWarp.j1] at h⟩
 | k + 1 => by
  obtain ⟨ih0, ih1⟩ := impl_isWarp.mono_l k
  refine ⟨?_, ?_⟩
  ·intro y0 y1 y2 y3 y4 y5 y6 y7 y8 y9
   unfold impl_isWarp.j0
   repeat' first
    | (with_reducible first | exact ih0 .. | exact ih1 .. | exact impl_asks.mono .. | exact impl_isGiving.mono .. | exact impl_isTakingLarge.mono .. | exact impl_isTakingSmall.mono .. | exact LeO.refl _ | exact LeO.none _ | refine LeO.ite ?_ ?_ | refine LeO.bind ?_ (fun _ => ?_))
    | exact LeO.none _ | refine LeO.ite ?_ ?_ | refine LeO.bind ?_ (fun _ => ?_)
  ·intro y0 y1 y2 y3 y4 y5 y6 y7 y8 y9
   unfold impl_isWarp.j1
   repeat' first
    | (with_reducible first | exact ih0 .. | exact ih1 .. | exact impl_asks.mono .. | exact impl_isGiving.mono .. | exact impl_isTakingLarge.mono .. | exact impl_isTakingSmall.mono .. | exact LeO.refl _ | exact LeO.none _ | refine LeO.ite ?_ ?_ | refine LeO.bind ?_ (fun _ => ?_))
    | exact LeO.none _ | refine LeO.ite ?_ ?_ | refine LeO.bind ?_ (fun _ => ?_)
theorem impl_isWarp.mono : ∀ a0 a1 a2 a3 a4 a5 a6 a7 a8 k, LeO (impl_isWarp.f k a0 a1 a2 a3 a4 a5 a6 a7 a8) (impl_isWarp.f (k + 1) a0 a1 a2 a3 a4 a5 a6 a7 a8) := by
 intro a0 a1 a2 a3 a4 a5 a6 a7 a8 k
 obtain ⟨ih0, ih1⟩ := impl_isWarp.mono_l k
 unfold impl_isWarp.f
 repeat' first
  | (with_reducible first | exact ih0 .. | exact ih1 .. | exact impl_asks.mono .. | exact impl_isGiving.mono .. | exact impl_isTakingLarge.mono .. | exact impl_isTakingSmall.mono .. | exact LeO.refl _ | exact LeO.none _ | refine LeO.ite ?_ ?_ | refine LeO.bind ?_ (fun _ => ?_))
  | exact LeO.none _ | refine LeO.ite ?_ ?_ | refine LeO.bind ?_ (fun _ => ?_)
def impl_isWarp.T6 : Bool × List (List Nat × List Nat) := (true, [([], []), ([0], [0]), ([1], [1]), ([2, 1], [2]), ([3], [3]), ([4, 3], [3, 4]), ([5, 3], [3, 5]), ([3, 6], [3, 6]), ([7, 3], [7]), ([8], [8]), ([9, 8], [8, 9]), ([8], [8]), ([11, 8, 8], [8, 11]), ([10, 12, 8], [8, 10, 12]), ([13, 8], [8, 13]), ([8, 14], [8, 14]), ([15, 12], [15]), ([16], [16]), ([17, 16], [16, 17]), ([18, 16], [16, 18]), ([16, 19], [16, 19])])
def impl_isWarp.B6 : List Nat := [0, 1, 3, 7, 15, 31, 63, 127, 255, 511, 1023, 511, 2559, 8191, 16383, 32767, 65535, 131071, 262143, 524287, 1048575]
theorem impl_isWarp.tab6 : rtab .any (opsOf Tryz.f44 6) = impl_isWarp.T6 := kr
theorem impl_isWarp.bits6 : waitsOk impl_isWarp.T6.2 impl_isWarp.B6 = true := kr
set_option maxHeartbeats 2000000 in
set_option maxRecDepth 100000 in
theorem impl_isWarp.calls (k : Nat) (a0_0 : Int) (A0_1 : Option Addr) (c0_1 : Nat) (l0_1 : List Int) (A0_2 : Option Addr) (c0_2 : Nat) (l0_2 : List Int) (a0_3 : Int) (a0_4 : Int) (a0_5 : Int) (a0_6 : Int) (a0_7 : Int) (a1 : Int) (r : Bool) (w : World) (hr0_1 : Kd.C (Kd.int .i64) w A0_1 l0_1.length l0_1) (hc0_1 : l0_1.length ≤ c0_1) (hr0_2 : Kd.C (Kd.int .i64) w A0_2 l0_2.length l0_2) (hc0_2 : l0_2.length ≤ c0_2) (h : impl_isWarp.f k a0_0 l0_1 l0_2 a0_3 a0_4 a0_5 a0_6 a0_7 a1 = some r) (hT : GT w) :
  Calls Tryz.prog 44 #[.agg #[.int .i64 a0_0, .slice A0_1 l0_1.length c0_1, .slice A0_2 l0_2.length c0_2, .int .u32 a0_3, .int .i64 a0_4, .int .i64 a0_5, .int .i64 a0_6, .int .u32 a0_7], .int .i64 a1] w fun e w' => e = .returned (.bool r) ∧ Below w.heap.size w w' := by
 have hu49 := Tryz.underlying49
 have hu31 := Tryz.underlying31
 have HR0_1 := Aside0.mk hr0_1
 have HC0_1 := Aside0.mk hc0_1
 clear hr0_1 hc0_1
 have HR0_2 := Aside0.mk hr0_2
 have HC0_2 := Aside0.mk hc0_2
 clear hr0_2 hc0_2
 have HB := Aside0.mk (Below.refl w.heap.size w)
 unfold impl_isWarp.f at h
 have H := h
 clear h
 have HC3 := Aside0.mk H
 clear H
 go_enter Tryz.func44, Tryz.ntmps44
 go_upto_region 1 with (first | ((with_reducible refine gate_dst (N := 2) rfl ?_); (try (refine gate_guard (by rfl) ?_; dsimp only)); refine box_event ?hg (N := 2) ?hd (cs := #[.int .i64 a0_0, .slice A0_1 l0_1.length c0_1, .slice A0_2 l0_2.length c0_2, .int .u32 a0_3, .int .i64 a0_4, .int .i64 a0_5, .int .i64 a0_6, .int .u32 a0_7]) (t := 49) ?hr ?_; (case hd => rfl); (case hg => rfl); (case hr => first | (go_simp; done) | (go_simp; rfl)); intro gb556 hg w4 hbox hb; have BK556 := Aside0.mk hbox; have GW556 := bz hg; have GE556 := bz hg; replace HB := hs hb; clear hb hbox hg))
 (try refine ap ?_)
 go_cut [26] (fun v26 wc => ∃ (kq : Nat) (x26_2 : Bool), v26 = .bool x26_2 ∧ Aside0 (impl_isWarp.j0 kq a1 x26_2 a0_0 l0_1 l0_2 a0_3 a0_4 a0_5 a0_6 a0_7 = some r) ∧ Aside0 (kq ≤ k) ∧ Aside0 (wc.heap[gb556]? = some (.cells #[.int .i64 a0_0, (.slice A0_1 l0_1.length c0_1), (.slice A0_2 l0_2.length c0_2), .int .u32 a0_3, .int .i64 a0_4, .int .i64 a0_5, .int .i64 a0_6, .int .u32 a0_7] 49 (0, 0))) ∧ Aside0 (Below w.heap.size w wc))
 case first =>
  have H := HC3.out
  clear HC3
  replace H := bn H
  obtain ⟨t557, A5, H⟩ := H
  try dsimp only at H
  replace H := ib H
  rcases H with ⟨rfl, H⟩ | ⟨rfl, H⟩
  ·(try simp only [Bool.not_true, Bool.not_false])
   by_cases c7 : (l0_1.length : Int) = 8
   ·rw [if_pos c7] at H
    have c7b0 : ((l0_1.length : Int) == 8) = true := beq_iff_eq.mpr c7
    have c7b1 : ((l0_1.length : Int) != 8) = false := bne_eq_false_iff_eq.mpr c7
    clear c7
    by_cases c8 : (l0_2.length : Int) = 8
    ·rw [if_pos c8] at H
     have c8b0 : ((l0_2.length : Int) == 8) = true := beq_iff_eq.mpr c8
     have c8b1 : ((l0_2.length : Int) != 8) = false := bne_eq_false_iff_eq.mpr c8
     clear c8
     replace H := bn H
     obtain ⟨t558, A9, H⟩ := H
     try dsimp only at H
     have H' := Aside0.mk H
     clear H
     go_wp2_with (first | ((with_reducible refine gf 21 ?_); refine gc Tryz.func21 (some 7) (impl_within.calls _ _ _ _ _ A5.out) ?_; rintro e w' ⟨rfl, ⟨nd, rfl⟩⟩; refine ⟨_, rfl, ?_⟩; obtain ⟨z10_0, z10_1, z10_2, z10_3, z10_4, z10_5, z10_6, z10_7⟩ := ca8 BK556; obtain ⟨f10_0, f10_1, f10_2, f10_3, f10_4, f10_5, f10_6, f10_7⟩ := fa8 BK556) | (go_at_call 72; (with_reducible refine (impl_isMask.calls _ _ _ A9.out).mono ?_); rintro e w' ⟨rfl, ⟨nd, rfl⟩⟩))
     go_meet
     case rel => exact ⟨_, (!t558), ev, H', ⟨om⟩, ⟨bk BK556⟩, ⟨bw⟩⟩
    ·rw [if_neg c8] at H
     have c8b0 : ((l0_2.length : Int) == 8) = false := beq_eq_false_iff_ne.mpr c8
     have c8b1 : ((l0_2.length : Int) != 8) = true := bne_iff_ne.mpr c8
     have H' := Aside0.mk H
     clear H
     go_wp2_with (first | ((with_reducible refine gf 21 ?_); refine gc Tryz.func21 (some 7) (impl_within.calls _ _ _ _ _ A5.out) ?_; rintro e w' ⟨rfl, ⟨nd, rfl⟩⟩; refine ⟨_, rfl, ?_⟩; obtain ⟨z11_0, z11_1, z11_2, z11_3, z11_4, z11_5, z11_6, z11_7⟩ := ca8 BK556; obtain ⟨f11_0, f11_1, f11_2, f11_3, f11_4, f11_5, f11_6, f11_7⟩ := fa8 BK556))
     go_meet
     case rel => exact ⟨_, (true), ev, H', ⟨om⟩, ⟨bk BK556⟩, ⟨bw⟩⟩
   ·rw [if_neg c7] at H
    have c7b0 : ((l0_1.length : Int) == 8) = false := beq_eq_false_iff_ne.mpr c7
    have c7b1 : ((l0_1.length : Int) != 8) = true := bne_iff_ne.mpr c7
    have H' := Aside0.mk H
    clear H
    go_wp2_with (first | ((with_reducible refine gf 21 ?_); refine gc Tryz.func21 (some 7) (impl_within.calls _ _ _ _ _ A5.out) ?_; rintro e w' ⟨rfl, ⟨nd, rfl⟩⟩; refine ⟨_, rfl, ?_⟩; obtain ⟨z12_0, z12_1, z12_2, z12_3, z12_4, z12_5, z12_6, z12_7⟩ := ca8 BK556; obtain ⟨f12_0, f12_1, f12_2, f12_3, f12_4, f12_5, f12_6, f12_7⟩ := fa8 BK556))
    go_meet
    case rel => exact ⟨_, (true), ev, H', ⟨om⟩, ⟨bk BK556⟩, ⟨bw⟩⟩
  ·(try simp only [Bool.not_true, Bool.not_false])
   have H' := Aside0.mk H
   clear H
   go_wp2_with (first | ((with_reducible refine gf 21 ?_); refine gc Tryz.func21 (some 7) (impl_within.calls _ _ _ _ _ A5.out) ?_; rintro e w' ⟨rfl, ⟨nd, rfl⟩⟩; refine ⟨_, rfl, ?_⟩))
   go_meet
   case rel => exact ⟨_, (true), ev, H', ⟨om⟩, ⟨bk BK556⟩, ⟨bw⟩⟩
 case rest =>
  clear HC3
  obtain ⟨kq, x26_2, rfl, HA, HJ2, BK556, HB⟩ := hcut
  cases kq with
  | zero => exact absurd HA.out (by simp [impl_isWarp.j0])
  | succ kj2 =>
   have H := HA.out
   clear HA
   simp only [impl_isWarp.j0] at H
   replace H := ib H
   rcases H with ⟨rfl, H⟩ | ⟨rfl, H⟩
   ·obtain rfl := Option.some.inj H
    go_wp2
    go_ret
    exact ⟨rt, bw⟩
   ·replace H := ieq H
    rcases H with ⟨c14b0, c14b1, H⟩ | ⟨c14, c14b0, c14b1, H⟩
    ·replace H := ieq H
     rcases H with ⟨c15b0, c15b1, H⟩ | ⟨c15, c15b0, c15b1, H⟩
     ·replace H := ieq H
      rcases H with ⟨c16b0, c16b1, H⟩ | ⟨c16, c16b0, c16b1, H⟩
      ·replace H := ieq H
       rcases H with ⟨c17b0, c17b1, H⟩ | ⟨c17, c17b0, c17b1, H⟩
       ·replace H := ieq H
        rcases H with ⟨c18b0, c18b1, H⟩ | ⟨c18, c18b0, c18b1, H⟩
        ·obtain rfl := Option.some.inj H
         obtain ⟨z19_0, z19_1, z19_2, z19_3, z19_4, z19_5, z19_6, z19_7⟩ := ca8 BK556
         obtain ⟨f19_0, f19_1, f19_2, f19_3, f19_4, f19_5, f19_6, f19_7⟩ := fa8 BK556
         go_wp2
         go_ret
         exact ⟨rt, bw⟩
        ·obtain rfl := Option.some.inj H
         obtain ⟨z20_0, z20_1, z20_2, z20_3, z20_4, z20_5, z20_6, z20_7⟩ := ca8 BK556
         obtain ⟨f20_0, f20_1, f20_2, f20_3, f20_4, f20_5, f20_6, f20_7⟩ := fa8 BK556
         go_wp2
         go_ret
         exact ⟨rt, bw⟩
       ·obtain rfl := Option.some.inj H
        obtain ⟨z21_0, z21_1, z21_2, z21_3, z21_4, z21_5, z21_6, z21_7⟩ := ca8 BK556
        obtain ⟨f21_0, f21_1, f21_2, f21_3, f21_4, f21_5, f21_6, f21_7⟩ := fa8 BK556
        go_wp2
        go_ret
        exact ⟨rt, bw⟩
      ·obtain rfl := Option.some.inj H
       obtain ⟨z22_0, z22_1, z22_2, z22_3, z22_4, z22_5, z22_6, z22_7⟩ := ca8 BK556
       obtain ⟨f22_0, f22_1, f22_2, f22_3, f22_4, f22_5, f22_6, f22_7⟩ := fa8 BK556
       go_wp2
       go_ret
       exact ⟨rt, bw⟩
     ·obtain rfl := Option.some.inj H
      obtain ⟨z23_0, z23_1, z23_2, z23_3, z23_4, z23_5, z23_6, z23_7⟩ := ca8 BK556
      obtain ⟨f23_0, f23_1, f23_2, f23_3, f23_4, f23_5, f23_6, f23_7⟩ := fa8 BK556
      go_wp2
      go_ret
      exact ⟨rt, bw⟩
    ·have HC24 := Aside0.mk H
     clear H
     obtain ⟨z25_0, z25_1, z25_2, z25_3, z25_4, z25_5, z25_6, z25_7⟩ := ca8 BK556
     obtain ⟨f25_0, f25_1, f25_2, f25_3, f25_4, f25_5, f25_6, f25_7⟩ := fa8 BK556
     go_upto_region 6 with (first | ((with_reducible refine gate_dst (N := 5) rfl ?_); (try (refine gate_guard (by rfl) ?_; dsimp only)); refine box_event ?hg (N := 5) ?hd (cs := #[.int .i64 0, .slice none 0 0]) (t := 31) ?hr ?_; (case hd => rfl); (case hg => rfl); (case hr => first | (go_simp; done) | (go_simp; rfl)); intro gb559 hg w26 hbox hb; have BK559 := Aside0.mk hbox; have GW559 := bz hg; have GE559 := bz hg; have NB556_559 := nl BK556 hg; have NB559_556 := ng BK556 hg; replace BK556 := b_ BK556 hb; replace HB := hs hb; clear hb hbox hg; have hnb27 := NB559_556.out; have hnc27 := NB556_559.out; obtain ⟨z28_0, z28_1⟩ := ca2 BK559; obtain ⟨f28_0, f28_1⟩ := fa2 BK559))
     (try refine ap ?_)
     go_cut [78] (fun v78 wc => ∃ (kq : Nat) (x78_23 : Bool), v78 = .bool x78_23 ∧ Aside0 (impl_isWarp.j1 kq a1 x78_23 a0_0 l0_1 l0_2 a0_3 a0_4 a0_5 a0_6 a0_7 = some r) ∧ Aside0 (kq ≤ kj2) ∧ Aside0 (wc.heap[gb556]? = some (.cells #[.int .i64 a0_0, (.slice A0_1 l0_1.length c0_1), (.slice A0_2 l0_2.length c0_2), .int .u32 a0_3, .int .i64 a0_4, .int .i64 a0_5, .int .i64 a0_6, .int .u32 a0_7] 49 (0, 0))) ∧ Aside0 (wc.heap[gb559]? = some (.cells #[.int .i64 a0_0, (.slice A0_1 l0_1.length c0_1)] 31 (0, 0))) ∧ Aside0 (Below w.heap.size w wc))
     case first =>
      have H := HC24.out
      clear HC24
      replace H := bn H
      obtain ⟨t560, A29, H⟩ := H
      try dsimp only at H
      replace H := ib H
      rcases H with ⟨rfl, H⟩ | ⟨rfl, H⟩
      ·(try simp only [Bool.not_true, Bool.not_false])
       replace H := ieq H
       rcases H with ⟨c31b0, c31b1, H⟩ | ⟨c31, c31b0, c31b1, H⟩
       ·have H' := Aside0.mk H
        clear H
        try go_wp2
        have n0_ : Aside0 (((w26.setCell ⟨gb559, 0, none⟩ (.int .i64 a0_0)).setCell ⟨gb559, 1, none⟩ (.slice A0_1 l0_1.length c0_1)).heap[gb556]? = some (.cells #[.int .i64 a0_0, .slice A0_1 l0_1.length c0_1, .slice A0_2 l0_2.length c0_2, .int .u32 a0_3, .int .i64 a0_4, .int .i64 a0_5, .int .i64 a0_6, .int .u32 a0_7] 49 (0, 0))) := ⟨bk BK556⟩
        have n1_ : Aside0 (((w26.setCell ⟨gb559, 0, none⟩ (.int .i64 a0_0)).setCell ⟨gb559, 1, none⟩ (.slice A0_1 l0_1.length c0_1)).heap[gb559]? = some (.cells #[.int .i64 a0_0, .slice A0_1 l0_1.length c0_1] 31 (0, 0))) := ⟨bp BK559⟩
        have n2_ : Aside0 (Below w.heap.size w ((w26.setCell ⟨gb559, 0, none⟩ (.int .i64 a0_0)).setCell ⟨gb559, 1, none⟩ (.slice A0_1 l0_1.length c0_1))) := ⟨bw⟩
        (try clear BK556)
        (try clear BK559)
        (try clear HB)
        generalize ((w26.setCell ⟨gb559, 0, none⟩ (.int .i64 a0_0)).setCell ⟨gb559, 1, none⟩ (.slice A0_1 l0_1.length c0_1)) = w32 at n0_ n1_ n2_ ⊢
        have BK556 := n0_
        have BK559 := n1_
        have HB := n2_
        clear n0_ n1_ n2_
        replace BK556 := bd BK556
        replace BK559 := bd BK559
        replace HB := hd HB
        refine st 21 (fun w' => CA w' gb559 0 [.int .i64 a0_0, .slice A0_1 l0_1.length c0_1] ∧ CA w' gb556 0 [.int .i64 a0_0, .slice A0_1 l0_1.length c0_1, .slice A0_2 l0_2.length c0_2, .int .u32 a0_3, .int .i64 a0_4, .int .i64 a0_5, .int .i64 a0_6, .int .u32 a0_7]) [] ⟨cx BK559, cx BK556⟩ impl_isWarp.tab6 impl_isWarp.bits6 ?_; intro hHeld HT_ HW_
        generalize w32.drew = w33 at BK556 BK559 HB hHeld ⊢
        refine tk 0 58 (bl 21 1) ?_
        refine on_ 1 (some 59) (bl 21 3) (fun K hK => ?_)
        refine gq Tryz.func73 (impl_isReq.calls _ A0_1 c0_1 _ _ _ (cb HR0_1) HC0_1.out A29.out) ?_
        rintro e w34 ⟨rfl, hb⟩
        refine ⟨_, rfl, ?_⟩
        replace BK556 := b_ BK556 hb
        replace BK559 := b_ BK559 hb
        replace HB := hs hb
        (try clear hb)
        refine hK.out _ _ ⟨cx BK559, cx BK556⟩ (fun hHeld => ?_)
        clear hK K
        refine nm ?_
        refine pu 2 60 (bl 21 7) ?_
        refine pu 3 61 (bl 21 15) ?_
        refine pu 4 62 (bl 21 31) ?_
        refine tk 5 63 (bl 21 63) ?_
        refine pu 6 64 (bl 21 127) ?_
        refine pu 7 65 (bl 21 255) ?_
        refine pu 8 66 (bl 21 511) ?_
        refine pf 9 67 (bl 21 1023) ?_
        refine pf 10 68 (bl 21 2047) ?_
        refine pf 11 69 (bl 21 4095) ?_
        refine pf 12 70 (bl 21 8191) ?_
        refine pf 13 71 (bl 21 16383) ?_
        refine pf 14 72 (bl 21 32767) ?_
        refine pu 15 73 (bl 21 65535) ?_
        refine pu 16 74 (bl 21 131071) ?_
        refine pf 17 75 (bl 21 262143) ?_
        refine pf 18 76 (bl 21 524287) ?_
        refine pf 19 77 (bl 21 1048575) ?_
        refine pu 20 78 (bl 21 2097151) ?_
        refine dn ?_ _
        try go_wp2
        go_meet
        case rel => exact ⟨_, (true), ev, H', ⟨by have := HJ2.out; first | omega | exact Nat.le_refl _⟩, ⟨bk BK556⟩, ⟨bk BK559⟩, ⟨bw⟩⟩
       ·replace H := bn H
        obtain ⟨t561, A35, H⟩ := H
        try dsimp only at H
        replace H := ieq H
        rcases H with ⟨c36b0, c36b1, H⟩ | ⟨c36, c36b0, c36b1, H⟩
        ·have H' := Aside0.mk H
         clear H
         try go_wp2
         have n0_ : Aside0 (((w26.setCell ⟨gb559, 0, none⟩ (.int .i64 a0_0)).setCell ⟨gb559, 1, none⟩ (.slice A0_1 l0_1.length c0_1)).heap[gb556]? = some (.cells #[.int .i64 a0_0, .slice A0_1 l0_1.length c0_1, .slice A0_2 l0_2.length c0_2, .int .u32 a0_3, .int .i64 a0_4, .int .i64 a0_5, .int .i64 a0_6, .int .u32 a0_7] 49 (0, 0))) := ⟨bk BK556⟩
         have n1_ : Aside0 (((w26.setCell ⟨gb559, 0, none⟩ (.int .i64 a0_0)).setCell ⟨gb559, 1, none⟩ (.slice A0_1 l0_1.length c0_1)).heap[gb559]? = some (.cells #[.int .i64 a0_0, .slice A0_1 l0_1.length c0_1] 31 (0, 0))) := ⟨bp BK559⟩
         have n2_ : Aside0 (Below w.heap.size w ((w26.setCell ⟨gb559, 0, none⟩ (.int .i64 a0_0)).setCell ⟨gb559, 1, none⟩ (.slice A0_1 l0_1.length c0_1))) := ⟨bw⟩
         (try clear BK556)
         (try clear BK559)
         (try clear HB)
         generalize ((w26.setCell ⟨gb559, 0, none⟩ (.int .i64 a0_0)).setCell ⟨gb559, 1, none⟩ (.slice A0_1 l0_1.length c0_1)) = w37 at n0_ n1_ n2_ ⊢
         have BK556 := n0_
         have BK559 := n1_
         have HB := n2_
         clear n0_ n1_ n2_
         replace BK556 := bd BK556
         replace BK559 := bd BK559
         replace HB := hd HB
         refine st 21 (fun w' => CA w' gb559 0 [.int .i64 a0_0, .slice A0_1 l0_1.length c0_1] ∧ CA w' gb556 0 [.int .i64 a0_0, .slice A0_1 l0_1.length c0_1, .slice A0_2 l0_2.length c0_2, .int .u32 a0_3, .int .i64 a0_4, .int .i64 a0_5, .int .i64 a0_6, .int .u32 a0_7]) [] ⟨cx BK559, cx BK556⟩ impl_isWarp.tab6 impl_isWarp.bits6 ?_; intro hHeld HT_ HW_
         generalize w37.drew = w38 at BK556 BK559 HB hHeld ⊢
         refine tk 0 58 (bl 21 1) ?_
         refine on_ 1 (some 59) (bl 21 3) (fun K hK => ?_)
         refine gq Tryz.func73 (impl_isReq.calls _ A0_1 c0_1 _ _ _ (cb HR0_1) HC0_1.out A29.out) ?_
         rintro e w39 ⟨rfl, hb⟩
         refine ⟨_, rfl, ?_⟩
         replace BK556 := b_ BK556 hb
         replace BK559 := b_ BK559 hb
         replace HB := hs hb
         (try clear hb)
         refine hK.out _ _ ⟨cx BK559, cx BK556⟩ (fun hHeld => ?_)
         clear hK K
         refine nm ?_
         refine pu 2 60 (bl 21 7) ?_
         refine pu 3 61 (bl 21 15) ?_
         refine pu 4 62 (bl 21 31) ?_
         refine tk 5 63 (bl 21 63) ?_
         refine pu 6 64 (bl 21 127) ?_
         refine pu 7 65 (bl 21 255) ?_
         refine pu 8 66 (bl 21 511) ?_
         refine pu 9 67 (bl 21 1023) ?_
         refine tk 10 68 (bl 21 2047) ?_
         refine tk 11 69 (bl 21 4095) ?_
         refine on_ 12 (some 70) (bl 21 8191) (fun K hK => ?_)
         refine gq Tryz.func74 (impl_asks.calls _ _ A0_1 c0_1 _ _ _ (cb HR0_1) HC0_1.out A35.out) ?_
         rintro e w40 ⟨rfl, hb⟩
         refine ⟨_, rfl, ?_⟩
         replace BK556 := b_ BK556 hb
         replace BK559 := b_ BK559 hb
         replace HB := hs hb
         (try clear hb)
         refine hK.out _ _ ⟨cx BK559, cx BK556⟩ (fun hHeld => ?_)
         clear hK K
         refine nm ?_
         refine pu 13 71 (bl 21 16383) ?_
         refine pu 14 72 (bl 21 32767) ?_
         refine pu 15 73 (bl 21 65535) ?_
         refine pu 16 74 (bl 21 131071) ?_
         refine pu 17 75 (bl 21 262143) ?_
         refine tk 18 76 (bl 21 524287) ?_
         refine pu 19 77 (bl 21 1048575) ?_
         refine pu 20 78 (bl 21 2097151) ?_
         refine dn ?_ _
         try go_wp2
         go_meet
         case rel => exact ⟨_, (decide (a0_5 < 0)), ev, H', ⟨by have := HJ2.out; first | omega | exact Nat.le_refl _⟩, ⟨bk BK556⟩, ⟨bk BK559⟩, ⟨bw⟩⟩
        ·have H' := Aside0.mk H
         clear H
         try go_wp2
         have n0_ : Aside0 (((w26.setCell ⟨gb559, 0, none⟩ (.int .i64 a0_0)).setCell ⟨gb559, 1, none⟩ (.slice A0_1 l0_1.length c0_1)).heap[gb556]? = some (.cells #[.int .i64 a0_0, .slice A0_1 l0_1.length c0_1, .slice A0_2 l0_2.length c0_2, .int .u32 a0_3, .int .i64 a0_4, .int .i64 a0_5, .int .i64 a0_6, .int .u32 a0_7] 49 (0, 0))) := ⟨bk BK556⟩
         have n1_ : Aside0 (((w26.setCell ⟨gb559, 0, none⟩ (.int .i64 a0_0)).setCell ⟨gb559, 1, none⟩ (.slice A0_1 l0_1.length c0_1)).heap[gb559]? = some (.cells #[.int .i64 a0_0, .slice A0_1 l0_1.length c0_1] 31 (0, 0))) := ⟨bp BK559⟩
         have n2_ : Aside0 (Below w.heap.size w ((w26.setCell ⟨gb559, 0, none⟩ (.int .i64 a0_0)).setCell ⟨gb559, 1, none⟩ (.slice A0_1 l0_1.length c0_1))) := ⟨bw⟩
         (try clear BK556)
         (try clear BK559)
         (try clear HB)
         generalize ((w26.setCell ⟨gb559, 0, none⟩ (.int .i64 a0_0)).setCell ⟨gb559, 1, none⟩ (.slice A0_1 l0_1.length c0_1)) = w41 at n0_ n1_ n2_ ⊢
         have BK556 := n0_
         have BK559 := n1_
         have HB := n2_
         clear n0_ n1_ n2_
         replace BK556 := bd BK556
         replace BK559 := bd BK559
         replace HB := hd HB
         refine st 21 (fun w' => CA w' gb559 0 [.int .i64 a0_0, .slice A0_1 l0_1.length c0_1] ∧ CA w' gb556 0 [.int .i64 a0_0, .slice A0_1 l0_1.length c0_1, .slice A0_2 l0_2.length c0_2, .int .u32 a0_3, .int .i64 a0_4, .int .i64 a0_5, .int .i64 a0_6, .int .u32 a0_7]) [] ⟨cx BK559, cx BK556⟩ impl_isWarp.tab6 impl_isWarp.bits6 ?_; intro hHeld HT_ HW_
         generalize w41.drew = w42 at BK556 BK559 HB hHeld ⊢
         refine tk 0 58 (bl 21 1) ?_
         refine on_ 1 (some 59) (bl 21 3) (fun K hK => ?_)
         refine gq Tryz.func73 (impl_isReq.calls _ A0_1 c0_1 _ _ _ (cb HR0_1) HC0_1.out A29.out) ?_
         rintro e w43 ⟨rfl, hb⟩
         refine ⟨_, rfl, ?_⟩
         replace BK556 := b_ BK556 hb
         replace BK559 := b_ BK559 hb
         replace HB := hs hb
         (try clear hb)
         refine hK.out _ _ ⟨cx BK559, cx BK556⟩ (fun hHeld => ?_)
         clear hK K
         refine nm ?_
         refine pu 2 60 (bl 21 7) ?_
         refine pu 3 61 (bl 21 15) ?_
         refine pu 4 62 (bl 21 31) ?_
         refine tk 5 63 (bl 21 63) ?_
         refine pu 6 64 (bl 21 127) ?_
         refine pu 7 65 (bl 21 255) ?_
         refine pu 8 66 (bl 21 511) ?_
         refine pu 9 67 (bl 21 1023) ?_
         refine tk 10 68 (bl 21 2047) ?_
         refine tk 11 69 (bl 21 4095) ?_
         refine on_ 12 (some 70) (bl 21 8191) (fun K hK => ?_)
         refine gq Tryz.func74 (impl_asks.calls _ _ A0_1 c0_1 _ _ _ (cb HR0_1) HC0_1.out A35.out) ?_
         rintro e w44 ⟨rfl, hb⟩
         refine ⟨_, rfl, ?_⟩
         replace BK556 := b_ BK556 hb
         replace BK559 := b_ BK559 hb
         replace HB := hs hb
         (try clear hb)
         refine hK.out _ _ ⟨cx BK559, cx BK556⟩ (fun hHeld => ?_)
         clear hK K
         refine nm ?_
         refine pu 13 71 (bl 21 16383) ?_
         refine pu 14 72 (bl 21 32767) ?_
         refine pu 15 73 (bl 21 65535) ?_
         refine pu 16 74 (bl 21 131071) ?_
         refine pf 17 75 (bl 21 262143) ?_
         refine pf 18 76 (bl 21 524287) ?_
         refine pf 19 77 (bl 21 1048575) ?_
         refine pu 20 78 (bl 21 2097151) ?_
         refine dn ?_ _
         try go_wp2
         go_meet
         case rel => exact ⟨_, (true), ev, H', ⟨by have := HJ2.out; first | omega | exact Nat.le_refl _⟩, ⟨bk BK556⟩, ⟨bk BK559⟩, ⟨bw⟩⟩
      ·(try simp only [Bool.not_true, Bool.not_false])
       have H' := Aside0.mk H
       clear H
       try go_wp2
       have n0_ : Aside0 (((w26.setCell ⟨gb559, 0, none⟩ (.int .i64 a0_0)).setCell ⟨gb559, 1, none⟩ (.slice A0_1 l0_1.length c0_1)).heap[gb556]? = some (.cells #[.int .i64 a0_0, .slice A0_1 l0_1.length c0_1, .slice A0_2 l0_2.length c0_2, .int .u32 a0_3, .int .i64 a0_4, .int .i64 a0_5, .int .i64 a0_6, .int .u32 a0_7] 49 (0, 0))) := ⟨bk BK556⟩
       have n1_ : Aside0 (((w26.setCell ⟨gb559, 0, none⟩ (.int .i64 a0_0)).setCell ⟨gb559, 1, none⟩ (.slice A0_1 l0_1.length c0_1)).heap[gb559]? = some (.cells #[.int .i64 a0_0, .slice A0_1 l0_1.length c0_1] 31 (0, 0))) := ⟨bp BK559⟩
       have n2_ : Aside0 (Below w.heap.size w ((w26.setCell ⟨gb559, 0, none⟩ (.int .i64 a0_0)).setCell ⟨gb559, 1, none⟩ (.slice A0_1 l0_1.length c0_1))) := ⟨bw⟩
       (try clear BK556)
       (try clear BK559)
       (try clear HB)
       generalize ((w26.setCell ⟨gb559, 0, none⟩ (.int .i64 a0_0)).setCell ⟨gb559, 1, none⟩ (.slice A0_1 l0_1.length c0_1)) = w45 at n0_ n1_ n2_ ⊢
       have BK556 := n0_
       have BK559 := n1_
       have HB := n2_
       clear n0_ n1_ n2_
       replace BK556 := bd BK556
       replace BK559 := bd BK559
       replace HB := hd HB
       refine st 21 (fun w' => CA w' gb559 0 [.int .i64 a0_0, .slice A0_1 l0_1.length c0_1]) [] (cx BK559) impl_isWarp.tab6 impl_isWarp.bits6 ?_; intro hHeld HT_ HW_
       generalize w45.drew = w46 at BK556 BK559 HB hHeld ⊢
       refine tk 0 58 (bl 21 1) ?_
       refine on_ 1 (some 59) (bl 21 3) (fun K hK => ?_)
       refine gq Tryz.func73 (impl_isReq.calls _ A0_1 c0_1 _ _ _ (cb HR0_1) HC0_1.out A29.out) ?_
       rintro e w47 ⟨rfl, hb⟩
       refine ⟨_, rfl, ?_⟩
       replace BK556 := b_ BK556 hb
       replace BK559 := b_ BK559 hb
       replace HB := hs hb
       (try clear hb)
       refine hK.out _ _ (cx BK559) (fun hHeld => ?_)
       clear hK K
       refine nm ?_
       refine pu 2 60 (bl 21 7) ?_
       refine pu 3 61 (bl 21 15) ?_
       refine pf 4 62 (bl 21 31) ?_
       refine pf 5 63 (bl 21 63) ?_
       refine pf 6 64 (bl 21 127) ?_
       refine pu 7 65 (bl 21 255) ?_
       refine pu 8 66 (bl 21 511) ?_
       refine pf 9 67 (bl 21 1023) ?_
       refine pf 10 68 (bl 21 2047) ?_
       refine pf 11 69 (bl 21 4095) ?_
       refine pf 12 70 (bl 21 8191) ?_
       refine pf 13 71 (bl 21 16383) ?_
       refine pf 14 72 (bl 21 32767) ?_
       refine pu 15 73 (bl 21 65535) ?_
       refine pu 16 74 (bl 21 131071) ?_
       refine pf 17 75 (bl 21 262143) ?_
       refine pf 18 76 (bl 21 524287) ?_
       refine pf 19 77 (bl 21 1048575) ?_
       refine pu 20 78 (bl 21 2097151) ?_
       refine dn ?_ _
       try go_wp2
       go_meet
       case rel => exact ⟨_, (true), ev, H', ⟨by have := HJ2.out; first | omega | exact Nat.le_refl _⟩, ⟨bk BK556⟩, ⟨bk BK559⟩, ⟨bw⟩⟩
     case rest =>
      clear HC24
      obtain ⟨kq, x78_23, rfl, HA, HJ23, BK556, BK559, HB⟩ := hcut
      cases kq with
      | zero => exact absurd HA.out (by simp [impl_isWarp.j1])
      | succ kj23 =>
       have H := HA.out
       clear HA
       simp only [impl_isWarp.j1] at H
       replace H := ib H
       rcases H with ⟨rfl, H⟩ | ⟨rfl, H⟩
       ·obtain rfl := Option.some.inj H
        go_wp2
        go_ret
        exact ⟨rt, bw⟩
       ·replace H := ieq H
        rcases H with ⟨c49b0, c49b1, H⟩ | ⟨c49, c49b0, c49b1, H⟩
        ·replace H := bn H
         obtain ⟨t562, A50, H⟩ := H
         try dsimp only at H
         obtain rfl := Option.some.inj H
         have hnb51 := NB556_559.out
         have hnc51 := NB559_556.out
         obtain ⟨z52_0, z52_1, z52_2, z52_3, z52_4, z52_5, z52_6, z52_7⟩ := ca8 BK556
         obtain ⟨f52_0, f52_1, f52_2, f52_3, f52_4, f52_5, f52_6, f52_7⟩ := fa8 BK556
         go_wp2_with (first | ((with_reducible refine gf 75 ?_); refine gc Tryz.func75 (some 85) (impl_isGiving.calls _ _ A0_1 c0_1 _ A0_2 c0_2 _ _ _ _ _ _ _ _ _ (cb HR0_1) HC0_1.out (cb HR0_2) HC0_2.out A50.out (hT.below bw)) ?_; rintro e w53 ⟨rfl, hb⟩; refine ⟨_, rfl, ?_⟩; replace BK556 := b_ BK556 hb; replace BK559 := b_ BK559 hb; replace HB := hs hb; try clear hb))
         go_ret
         exact ⟨rt, bw⟩
        ·replace H := bn H
         obtain ⟨t563, A54, H⟩ := H
         try dsimp only at H
         have HU55 := Aside0.mk H
         clear H
         have hnb56 := NB556_559.out
         have hnc56 := NB559_556.out
         obtain ⟨z57_0, z57_1, z57_2, z57_3, z57_4, z57_5, z57_6, z57_7⟩ := ca8 BK556
         obtain ⟨f57_0, f57_1, f57_2, f57_3, f57_4, f57_5, f57_6, f57_7⟩ := fa8 BK556
         go_upto_if 86 with (first | ((with_reducible refine gf 76 ?_); refine gc Tryz.func76 (some 88) (impl_Warp_isSmall.calls _ A0_1 c0_1 _ A0_2 c0_2 _ _ _ _ _ _ _ _ (cb HR0_1) HC0_1.out (cb HR0_2) HC0_2.out A54.out (hT.below bw)) ?_; rintro e w58 ⟨rfl, hb⟩; refine ⟨_, rfl, ?_⟩; replace BK556 := b_ BK556 hb; replace BK559 := b_ BK559 hb; replace HB := hs hb; try clear hb))
         (try refine ap ?_)
         have H := HU55.out
         clear HU55
         replace H := ib H
         rcases H with ⟨rfl, H⟩ | ⟨rfl, H⟩
         ·(try simp only [Bool.not_true, Bool.not_false])
          replace H := bn H
          obtain ⟨t564, A60, H⟩ := H
          try dsimp only at H
          obtain rfl := Option.some.inj H
          have hnb61 := NB556_559.out
          have hnc61 := NB559_556.out
          obtain ⟨z62_0, z62_1, z62_2, z62_3, z62_4, z62_5, z62_6, z62_7⟩ := ca8 BK556
          obtain ⟨f62_0, f62_1, f62_2, f62_3, f62_4, f62_5, f62_6, f62_7⟩ := fa8 BK556
          go_wp2_with (first | ((with_reducible refine gf 77 ?_); refine gc Tryz.func77 (some 91) (impl_isTakingSmall.calls _ _ A0_1 c0_1 _ A0_2 c0_2 _ _ _ _ _ _ _ _ _ (cb HR0_1) HC0_1.out (cb HR0_2) HC0_2.out A60.out (hT.below bw)) ?_; rintro e w63 ⟨rfl, hb⟩; refine ⟨_, rfl, ?_⟩; replace BK556 := b_ BK556 hb; replace BK559 := b_ BK559 hb; replace HB := hs hb; try clear hb))
          go_ret
          exact ⟨rt, bw⟩
         ·(try simp only [Bool.not_true, Bool.not_false])
          replace H := bn H
          obtain ⟨t565, A64, H⟩ := H
          try dsimp only at H
          obtain rfl := Option.some.inj H
          have hnb65 := NB556_559.out
          have hnc65 := NB559_556.out
          obtain ⟨z66_0, z66_1, z66_2, z66_3, z66_4, z66_5, z66_6, z66_7⟩ := ca8 BK556
          obtain ⟨f66_0, f66_1, f66_2, f66_3, f66_4, f66_5, f66_6, f66_7⟩ := fa8 BK556
          go_wp2_with (first | ((with_reducible refine gf 78 ?_); refine gc Tryz.func78 (some 94) (impl_isTakingLarge.calls _ _ A0_1 c0_1 _ A0_2 c0_2 _ _ _ _ _ _ _ _ _ (cb HR0_1) HC0_1.out (cb HR0_2) HC0_2.out A64.out (hT.below bw)) ?_; rintro e w67 ⟨rfl, hb⟩; refine ⟨_, rfl, ?_⟩; replace BK556 := b_ BK556 hb; replace BK559 := b_ BK559 hb; replace HB := hs hb; try clear hb))
          go_ret
          exact ⟨rt, bw⟩

end Go.Proofs.YtobboonnfocalaaGreatDoor.PG1
