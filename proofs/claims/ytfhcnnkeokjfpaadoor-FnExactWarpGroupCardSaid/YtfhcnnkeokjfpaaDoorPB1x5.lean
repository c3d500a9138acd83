/- What functions of the program compute, each as a Lean function, and that the run comes to just that. Conditions: none. (Laid by this session's own program.) -/
import Derived.Test.YtfhcnnkeokjfpaaDoorT
import Derived.Test.YtfhcnnkeokjfpaaDoorPB1x0
import Derived.Test.YtfhcnnkeokjfpaaDoorPB1x2
import Derived.Test.YtfhcnnkeokjfpaaDoorPB1x4
namespace Go.Proofs.YtfhcnnkeokjfpaaDoor.PB1
open Go.RowKit Go.Proofs.YtfhcnnkeokjfpaaDoorW.PrintWords Go.Proofs.YtfhcnnkeokjfpaaDoorW.PrintLast Go.Proofs.YtfhcnnkeokjfpaaDoorW.PrintMore Go.Proofs.YtfhcnnkeokjfpaaDoor.T
attribute [local go_sem] max2_int min2_int max_two min_two max_three min_three max_four min_four   -- for this text's walks alone
set_option linter.unusedVariables false
set_option linter.unusedSimpArgs false

/-! ### spec_CtlOk: function 99 -/
def spec_CtlOk.j0 : Nat → Int → Bool → Int → Int → Int → Int → Option (Bool)
  | 0, _, _, _, _, _, _ => none
  | k + 1, x4, x5, x146000, x146001, x146002, x146003 => if x5 = true then (if x146001 = 0 then (if x146002 = 0 then (some (x146003 == 0)) else (some false)) else (some false)) else (if x4 = 1 then ((spec_l04Class.f x146001).bind fun t146 => (if t146 = true then (if x146002 = 0 then (some false) else ((spec_Highest.f k x146002).bind fun t147 => ((spec_PerPage.f k x146001).bind fun t148 => (if t147 < t148 then (some (x146003 == 0)) else (some false))))) else (some false))) else (if x4 = 2 then (if x146001 = 0 then (if x146002 = 0 then (if x146003 ≥ 2 then (some (decide (x146003 ≤ 16))) else (some false)) else (some false)) else (some false)) else (some false)))
def spec_CtlOk.f (k : Nat) (a0_0 : Int) (a0_1 : Int) (a0_2 : Int) (a0_3 : Int) : Option (Bool) := if a0_0 = 0 then (spec_CtlOk.j0 k a0_0 (a0_0 == 0) a0_0 a0_1 a0_2 a0_3) else (spec_CtlOk.j0 k a0_0 (a0_0 == 3) a0_0 a0_1 a0_2 a0_3)
theorem spec_CtlOk.mono_l : ∀ k, (∀ y0 y1 y2 y3 y4 y5, LeO (spec_CtlOk.j0 k y0 y1 y2 y3 y4 y5) (spec_CtlOk.j0 (k + 1) y0 y1 y2 y3 y4 y5))
  | 0 => fun _ _ _ _ _ _ r h => by simp [spec_CtlOk.j0] at h
  | k + 1 => by
    have ih0 := spec_CtlOk.mono_l k
    · intro y0 y1 y2 y3 y4 y5
      unfold spec_CtlOk.j0
      repeat' first
        | (with_reducible first | exact ih0 .. | exact spec_Highest.mono .. | exact spec_PerPage.mono .. | exact LeO.refl _ | exact LeO.none _ | refine LeO.ite ?_ ?_ | refine LeO.bind ?_ (fun _ => ?_))
        | exact LeO.none _ | refine LeO.ite ?_ ?_ | refine LeO.bind ?_ (fun _ => ?_)
theorem spec_CtlOk.mono : ∀ a0 a1 a2 a3 k, LeO (spec_CtlOk.f k a0 a1 a2 a3) (spec_CtlOk.f (k + 1) a0 a1 a2 a3) := by
  intro a0 a1 a2 a3 k
  have ih0 := spec_CtlOk.mono_l k
  unfold spec_CtlOk.f
  repeat' first
    | (with_reducible first | exact ih0 .. | exact spec_Highest.mono .. | exact spec_PerPage.mono .. | exact LeO.refl _ | exact LeO.none _ | refine LeO.ite ?_ ?_ | refine LeO.bind ?_ (fun _ => ?_))
    | exact LeO.none _ | refine LeO.ite ?_ ?_ | refine LeO.bind ?_ (fun _ => ?_)
def spec_CtlOk.T6 : Bool × List (List Nat × List Nat) := (true, [([], []), ([0], [0]), ([1], [1]), ([2, 2], [2]), ([3], [3]), ([4, 3], [3, 4]), ([5, 3], [3, 5]), ([3, 6], [3, 6]), ([7, 3], [7]), ([8], [8]), ([9, 8], [8, 9]), ([10, 8, 8], [8, 10]), ([8], [8]), ([12, 8], [8, 12]), ([13, 11, 8], [8, 13]), ([11, 14, 8], [8, 11, 14]), ([8, 15], [8, 15]), ([16, 14], [16]), ([17], [17]), ([18, 17], [17, 18]), ([19, 17], [17, 19]), ([17, 20], [17, 20]), ([21, 17, 0, 1, 2, 3, 4, 5, 6, 7, 8, 9, 10, 11, 12, 13, 14, 15, 16, 17, 18, 19, 20, 21], [21])])
def spec_CtlOk.B6 : List Nat := [0, 1, 3, 7, 15, 31, 63, 127, 255, 511, 1023, 2047, 511, 4607, 16383, 32767, 65535, 131071, 262143, 524287, 1048575, 2097151, 4194303]
theorem spec_CtlOk.tab6 : rtab .any (opsOf Tryd.f99 6) = spec_CtlOk.T6 := kr
theorem spec_CtlOk.bits6 : waitsOk spec_CtlOk.T6.2 spec_CtlOk.B6 = true := kr
set_option maxHeartbeats 2000000 in
set_option maxRecDepth 100000 in
theorem spec_CtlOk.calls (k : Nat) (a0_0 : Int) (a0_1 : Int) (a0_2 : Int) (a0_3 : Int) (r : Bool) (w : World) (h : spec_CtlOk.f k a0_0 a0_1 a0_2 a0_3 = some r) :
    Calls Tryd.prog 99 #[.agg #[.int .i64 a0_0, .int .i64 a0_1, .int .u32 a0_2, .int .i64 a0_3]] w fun e w' => e = .returned (.bool r) ∧ Below w.heap.size w w' := by
  have hu91 := Tryd.underlying91
  have HB := Aside0.mk (Below.refl w.heap.size w)
  unfold spec_CtlOk.f at h
  have H := h
  clear h
  have HC2 := Aside0.mk H
  clear H
  go_enter Tryd.func99, Tryd.ntmps99
  go_upto_if 5 with (first | ((with_reducible refine gd 1 ?_); refine bx 1 91 #[.int .i64 a0_0, .int .i64 a0_1, .int .u32 a0_2, .int .i64 a0_3] ?_; clear HB; intro gb145 w3 hg BK145 hb GE145 HB; clear hb hg; obtain ⟨z4_0, z4_1, z4_2, z4_3⟩ := ca4 BK145; obtain ⟨f4_0, f4_1, f4_2, f4_3⟩ := fa4 BK145))
  (try refine ap ?_)
  go_cut [5] (fun v5 wc => ∃ (kq : Nat) (x5_1 : Bool), v5 = .bool x5_1 ∧ Aside0 (spec_CtlOk.j0 kq a0_0 x5_1 a0_0 a0_1 a0_2 a0_3 = some r) ∧ Aside0 (kq ≤ k) ∧ Aside0 (wc.heap[gb145]? = some (.cells #[.int .i64 a0_0, .int .i64 a0_1, .int .u32 a0_2, .int .i64 a0_3] 91 (0, 0))) ∧ Aside0 (Below w.heap.size w wc))
  case first =>
    have H := HC2.out
    clear HC2
    replace H := ieq H
    rcases H with ⟨c5b0, c5b1, H⟩ | ⟨c5, c5b0, c5b1, H⟩
    · (first | rw [c5b0] | (simp only [i64_w, i32_w]; rw [c5b0]) | (simp only [c5b2, Bool.not_true, Bool.not_false]) | (simp only [c5b1, Bool.not_true, Bool.not_false]) | skip)
      have H' := Aside0.mk H
      clear H
      go_wp2
      go_meet
      case rel => exact ⟨_, ((a0_0 == 0)), ev, H', ⟨om⟩, ⟨bk BK145⟩, ⟨bw⟩⟩
    · (first | rw [c5b0] | (simp only [i64_w, i32_w]; rw [c5b0]) | (simp only [c5b2, Bool.not_true, Bool.not_false]) | (simp only [c5b1, Bool.not_true, Bool.not_false]) | skip)
      have H' := Aside0.mk H
      clear H
      go_wp2
      go_meet
      case rel => exact ⟨_, ((a0_0 == 3)), ev, H', ⟨om⟩, ⟨bk BK145⟩, ⟨bw⟩⟩
  case rest =>
    clear HC2
    (try clear z4_0 z4_1 z4_2 z4_3)
    (try clear f4_0 f4_1 f4_2 f4_3)
    obtain ⟨kq, x5_1, rfl, HA, HJ1, BK145, HB⟩ := hcut
    cases kq with
    | zero => exact absurd HA.out (by simp [spec_CtlOk.j0])
    | succ kj1 =>
      have H := HA.out
      clear HA
      simp only [spec_CtlOk.j0] at H
      replace H := ib H
      rcases H with ⟨rfl, H⟩ | ⟨rfl, H⟩
      · replace H := ieq H
        rcases H with ⟨c7b0, c7b1, H⟩ | ⟨c7, c7b0, c7b1, H⟩
        · replace H := ieq H
          rcases H with ⟨c8b0, c8b1, H⟩ | ⟨c8, c8b0, c8b1, H⟩
          · obtain rfl := Option.some.inj H
            obtain ⟨z9_0, z9_1, z9_2, z9_3⟩ := ca4 BK145
            obtain ⟨f9_0, f9_1, f9_2, f9_3⟩ := fa4 BK145
            go_wp2
            go_ret
            exact ⟨rt, bw⟩
          · obtain rfl := Option.some.inj H
            obtain ⟨z10_0, z10_1, z10_2, z10_3⟩ := ca4 BK145
            obtain ⟨f10_0, f10_1, f10_2, f10_3⟩ := fa4 BK145
            go_wp2
            go_ret
            exact ⟨rt, bw⟩
        · obtain rfl := Option.some.inj H
          obtain ⟨z11_0, z11_1, z11_2, z11_3⟩ := ca4 BK145
          obtain ⟨f11_0, f11_1, f11_2, f11_3⟩ := fa4 BK145
          go_wp2
          go_ret
          exact ⟨rt, bw⟩
      · replace H := ieq H
        rcases H with ⟨c12b0, c12b1, H⟩ | ⟨c12, c12b0, c12b1, H⟩
        · replace H := bn H
          obtain ⟨t146, A13, H⟩ := H
          try dsimp only at H
          replace H := ib H
          rcases H with ⟨rfl, H⟩ | ⟨rfl, H⟩
          · replace H := ieq H
            rcases H with ⟨c15b0, c15b1, H⟩ | ⟨c15, c15b0, c15b1, H⟩
            · obtain rfl := Option.some.inj H
              try go_wp2
              replace BK145 := bd BK145
              replace HB := hd HB
              refine st 23 (fun w' => CA w' gb145 0 [.int .i64 a0_0, .int .i64 a0_1, .int .u32 a0_2, .int .i64 a0_3]) [] (cx BK145) spec_CtlOk.tab6 spec_CtlOk.bits6 ?_; intro hHeld HT_ HW_
              generalize wc.drew = w16 at BK145 HB hHeld ⊢
              refine pu 0 23 (bl 23 1) ?_
              refine tk 1 24 (bl 23 3) ?_
              refine on_ 2 (some 25) (bl 23 7) (fun K hK => ?_)
              refine gq Tryd.func67 (spec_l04Class.calls _ _ _ A13.out) ?_
              rintro e w' ⟨rfl, ⟨nd, rfl⟩⟩
              refine ⟨_, rfl, ?_⟩
              refine hK.out _ _ (cx BK145) (fun hHeld => ?_)
              clear hK K
              refine nm ?_
              refine pu 3 26 (bl 23 15) ?_
              refine pu 4 27 (bl 23 31) ?_
              refine tk 5 28 (bl 23 63) ?_
              refine pu 6 29 (bl 23 127) ?_
              refine pu 7 30 (bl 23 255) ?_
              refine pu 8 31 (bl 23 511) ?_
              refine pf 9 32 (bl 23 1023) ?_
              refine pf 10 33 (bl 23 2047) ?_
              refine pf 11 34 (bl 23 4095) ?_
              refine pf 12 35 (bl 23 8191) ?_
              refine pf 13 36 (bl 23 16383) ?_
              refine pf 14 37 (bl 23 32767) ?_
              refine pf 15 38 (bl 23 65535) ?_
              refine pu 16 39 (bl 23 131071) ?_
              refine pu 17 40 (bl 23 262143) ?_
              refine pf 18 41 (bl 23 524287) ?_
              refine pf 19 42 (bl 23 1048575) ?_
              refine pf 20 43 (bl 23 2097151) ?_
              refine pu 21 44 (bl 23 4194303) ?_
              refine pu 22 2 (bl 23 8388607) ?_
              refine dn ?_ _
              try go_wp2
              go_ret
              exact ⟨rt, bw⟩
            · replace H := bn H
              obtain ⟨t147, A17, H⟩ := H
              try dsimp only at H
              replace H := bn H
              obtain ⟨t148, A18, H⟩ := H
              try dsimp only at H
              replace H := ilt H
              rcases H with ⟨c19b0, H⟩ | ⟨c19b0, H⟩
              · obtain rfl := Option.some.inj H
                try go_wp2
                replace BK145 := bd BK145
                replace HB := hd HB
                refine st 23 (fun w' => CA w' gb145 0 [.int .i64 a0_0, .int .i64 a0_1, .int .u32 a0_2, .int .i64 a0_3]) [] (cx BK145) spec_CtlOk.tab6 spec_CtlOk.bits6 ?_; intro hHeld HT_ HW_
                generalize wc.drew = w20 at BK145 HB hHeld ⊢
                refine pu 0 23 (bl 23 1) ?_
                refine tk 1 24 (bl 23 3) ?_
                refine on_ 2 (some 25) (bl 23 7) (fun K hK => ?_)
                refine gq Tryd.func67 (spec_l04Class.calls _ _ _ A13.out) ?_
                rintro e w' ⟨rfl, ⟨nd, rfl⟩⟩
                refine ⟨_, rfl, ?_⟩
                refine hK.out _ _ (cx BK145) (fun hHeld => ?_)
                clear hK K
                refine nm ?_
                refine pu 3 26 (bl 23 15) ?_
                refine pu 4 27 (bl 23 31) ?_
                refine tk 5 28 (bl 23 63) ?_
                refine pu 6 29 (bl 23 127) ?_
                refine pu 7 30 (bl 23 255) ?_
                refine pu 8 31 (bl 23 511) ?_
                refine pu 9 32 (bl 23 1023) ?_
                refine pu 12 35 (bl 23 5119) ?_
                refine tk 10 33 (bl 23 6143) ?_
                refine tk 13 36 (bl 23 14335) ?_
                refine on_ 11 (some 34) (bl 23 16383) (fun K hK => ?_)
                refine gq Tryd.func64 (spec_Highest.calls _ _ _ _ A17.out) ?_
                rintro e w21 ⟨rfl, hb⟩
                refine ⟨_, rfl, ?_⟩
                replace BK145 := b_ BK145 hb
                replace HB := hs hb
                (try clear hb)
                refine hK.out _ _ (cx BK145) (fun hHeld => ?_)
                clear hK K
                refine nm ?_
                refine on_ 14 (some 37) (bl 23 32767) (fun K hK => ?_)
                refine gq Tryd.func68 (spec_PerPage.calls _ _ _ _ A18.out) ?_
                rintro e w' ⟨rfl, ⟨nd, rfl⟩⟩
                refine ⟨_, rfl, ?_⟩
                refine hK.out _ _ (cx BK145) (fun hHeld => ?_)
                clear hK K
                refine nm ?_
                refine pu 15 38 (bl 23 65535) ?_
                refine pu 16 39 (bl 23 131071) ?_
                refine pu 17 40 (bl 23 262143) ?_
                refine pu 18 41 (bl 23 524287) ?_
                refine tk 19 42 (bl 23 1048575) ?_
                refine pu 20 43 (bl 23 2097151) ?_
                refine pu 21 44 (bl 23 4194303) ?_
                refine pu 22 2 (bl 23 8388607) ?_
                refine dn ?_ _
                try go_wp2
                go_ret
                exact ⟨rt, bw⟩
              · obtain rfl := Option.some.inj H
                try go_wp2
                replace BK145 := bd BK145
                replace HB := hd HB
                refine st 23 (fun w' => CA w' gb145 0 [.int .i64 a0_0, .int .i64 a0_1, .int .u32 a0_2, .int .i64 a0_3]) [] (cx BK145) spec_CtlOk.tab6 spec_CtlOk.bits6 ?_; intro hHeld HT_ HW_
                generalize wc.drew = w22 at BK145 HB hHeld ⊢
                refine pu 0 23 (bl 23 1) ?_
                refine tk 1 24 (bl 23 3) ?_
                refine on_ 2 (some 25) (bl 23 7) (fun K hK => ?_)
                refine gq Tryd.func67 (spec_l04Class.calls _ _ _ A13.out) ?_
                rintro e w' ⟨rfl, ⟨nd, rfl⟩⟩
                refine ⟨_, rfl, ?_⟩
                refine hK.out _ _ (cx BK145) (fun hHeld => ?_)
                clear hK K
                refine nm ?_
                refine pu 3 26 (bl 23 15) ?_
                refine pu 4 27 (bl 23 31) ?_
                refine tk 5 28 (bl 23 63) ?_
                refine pu 6 29 (bl 23 127) ?_
                refine pu 7 30 (bl 23 255) ?_
                refine pu 8 31 (bl 23 511) ?_
                refine pu 9 32 (bl 23 1023) ?_
                refine pu 12 35 (bl 23 5119) ?_
                refine tk 10 33 (bl 23 6143) ?_
                refine tk 13 36 (bl 23 14335) ?_
                refine on_ 11 (some 34) (bl 23 16383) (fun K hK => ?_)
                refine gq Tryd.func64 (spec_Highest.calls _ _ _ _ A17.out) ?_
                rintro e w23 ⟨rfl, hb⟩
                refine ⟨_, rfl, ?_⟩
                replace BK145 := b_ BK145 hb
                replace HB := hs hb
                (try clear hb)
                refine hK.out _ _ (cx BK145) (fun hHeld => ?_)
                clear hK K
                refine nm ?_
                refine on_ 14 (some 37) (bl 23 32767) (fun K hK => ?_)
                refine gq Tryd.func68 (spec_PerPage.calls _ _ _ _ A18.out) ?_
                rintro e w' ⟨rfl, ⟨nd, rfl⟩⟩
                refine ⟨_, rfl, ?_⟩
                refine hK.out _ _ (cx BK145) (fun hHeld => ?_)
                clear hK K
                refine nm ?_
                refine pu 15 38 (bl 23 65535) ?_
                refine pu 16 39 (bl 23 131071) ?_
                refine pu 17 40 (bl 23 262143) ?_
                refine pf 18 41 (bl 23 524287) ?_
                refine pf 19 42 (bl 23 1048575) ?_
                refine pf 20 43 (bl 23 2097151) ?_
                refine pu 21 44 (bl 23 4194303) ?_
                refine pu 22 2 (bl 23 8388607) ?_
                refine dn ?_ _
                try go_wp2
                go_ret
                exact ⟨rt, bw⟩
          · obtain rfl := Option.some.inj H
            try go_wp2
            replace BK145 := bd BK145
            replace HB := hd HB
            refine st 23 (fun w' => CA w' gb145 0 [.int .i64 a0_0, .int .i64 a0_1, .int .u32 a0_2, .int .i64 a0_3]) [] (cx BK145) spec_CtlOk.tab6 spec_CtlOk.bits6 ?_; intro hHeld HT_ HW_
            generalize wc.drew = w24 at BK145 HB hHeld ⊢
            refine pu 0 23 (bl 23 1) ?_
            refine tk 1 24 (bl 23 3) ?_
            refine on_ 2 (some 25) (bl 23 7) (fun K hK => ?_)
            refine gq Tryd.func67 (spec_l04Class.calls _ _ _ A13.out) ?_
            rintro e w' ⟨rfl, ⟨nd, rfl⟩⟩
            refine ⟨_, rfl, ?_⟩
            refine hK.out _ _ (cx BK145) (fun hHeld => ?_)
            clear hK K
            refine nm ?_
            refine pu 3 26 (bl 23 15) ?_
            refine pf 4 27 (bl 23 31) ?_
            refine pf 5 28 (bl 23 63) ?_
            refine pf 6 29 (bl 23 127) ?_
            refine pu 7 30 (bl 23 255) ?_
            refine pu 8 31 (bl 23 511) ?_
            refine pf 9 32 (bl 23 1023) ?_
            refine pf 10 33 (bl 23 2047) ?_
            refine pf 11 34 (bl 23 4095) ?_
            refine pf 12 35 (bl 23 8191) ?_
            refine pf 13 36 (bl 23 16383) ?_
            refine pf 14 37 (bl 23 32767) ?_
            refine pf 15 38 (bl 23 65535) ?_
            refine pu 16 39 (bl 23 131071) ?_
            refine pu 17 40 (bl 23 262143) ?_
            refine pf 18 41 (bl 23 524287) ?_
            refine pf 19 42 (bl 23 1048575) ?_
            refine pf 20 43 (bl 23 2097151) ?_
            refine pu 21 44 (bl 23 4194303) ?_
            refine pu 22 2 (bl 23 8388607) ?_
            refine dn ?_ _
            try go_wp2
            go_ret
            exact ⟨rt, bw⟩
        · replace H := ieq H
          rcases H with ⟨c25b0, c25b1, H⟩ | ⟨c25, c25b0, c25b1, H⟩
          · replace H := ieq H
            rcases H with ⟨c26b0, c26b1, H⟩ | ⟨c26, c26b0, c26b1, H⟩
            · replace H := ieq H
              rcases H with ⟨c27b0, c27b1, H⟩ | ⟨c27, c27b0, c27b1, H⟩
              · replace H := ige H
                rcases H with ⟨c28b0, H⟩ | ⟨c28b0, H⟩
                · obtain rfl := Option.some.inj H
                  obtain ⟨z29_0, z29_1, z29_2, z29_3⟩ := ca4 BK145
                  obtain ⟨f29_0, f29_1, f29_2, f29_3⟩ := fa4 BK145
                  go_wp2
                  go_ret
                  exact ⟨rt, bw⟩
                · obtain rfl := Option.some.inj H
                  obtain ⟨z30_0, z30_1, z30_2, z30_3⟩ := ca4 BK145
                  obtain ⟨f30_0, f30_1, f30_2, f30_3⟩ := fa4 BK145
                  go_wp2
                  go_ret
                  exact ⟨rt, bw⟩
              · obtain rfl := Option.some.inj H
                obtain ⟨z31_0, z31_1, z31_2, z31_3⟩ := ca4 BK145
                obtain ⟨f31_0, f31_1, f31_2, f31_3⟩ := fa4 BK145
                go_wp2
                go_ret
                exact ⟨rt, bw⟩
            · obtain rfl := Option.some.inj H
              obtain ⟨z32_0, z32_1, z32_2, z32_3⟩ := ca4 BK145
              obtain ⟨f32_0, f32_1, f32_2, f32_3⟩ := fa4 BK145
              go_wp2
              go_ret
              exact ⟨rt, bw⟩
          · obtain rfl := Option.some.inj H
            go_wp2
            go_ret
            exact ⟨rt, bw⟩

end Go.Proofs.YtfhcnnkeokjfpaaDoor.PB1
