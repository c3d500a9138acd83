/- What functions of the program compute, each as a Lean function, and that the run comes to just that. Conditions: none. (Laid by this session's own program.) -/
import Derived.Test.YtfhcnnkeokjfpaaDoorT
import Derived.Test.YtfhcnnkeokjfpaaDoorPB1x0
import Derived.Test.YtfhcnnkeokjfpaaDoorPB1x9
namespace Go.Proofs.YtfhcnnkeokjfpaaDoor.PB1
open Go.RowKit Go.Proofs.YtfhcnnkeokjfpaaDoorW.PrintWords Go.Proofs.YtfhcnnkeokjfpaaDoorW.PrintLast Go.Proofs.YtfhcnnkeokjfpaaDoorW.PrintMore Go.Proofs.YtfhcnnkeokjfpaaDoor.T
attribute [local go_sem] max2_int min2_int max_two min_two max_three min_three max_four min_four   -- for this text's walks alone
set_option linter.unusedVariables false
set_option linter.unusedSimpArgs false

/-! ### impl_startsBlock: function 114 -/
def impl_startsBlock.f (a0_0 : Int) (a0_1 : Int) (a0_2 : Int) (a0_3 : Int) (a1 : Int) : Option (Bool) := if a0_0 = 1 then ((impl_within.f a1 0 15).bind fun t266 => (if t266 = true then (if 0 ≤ a0_1 then (if (shl .i64 (shr .i64 a1 a0_1) a0_1) = a1 then (if 0 ≤ (shr .i64 a1 a0_1) then (some ((Go.bits .and .u32 (shr .u32 a0_2 (shr .i64 a1 a0_1)) 1) == 1)) else (none)) else (some false)) else (none)) else (some false))) else (some false)
def impl_startsBlock.T1 : Bool × List (List Nat × List Nat) := (true, [([], []), ([0], [0]), ([1], [1]), ([2], [2]), ([3], [3]), ([4, 3, 3], [3, 4]), ([3, 5], [3, 5]), ([6, 5], [6]), ([7], [7]), ([7], [7]), ([9, 7], [7, 9]), ([8, 10, 7], [7, 8, 10]), ([7], [7]), ([12, 7], [7, 12]), ([11, 13, 7], [7, 11, 13]), ([7], [7]), ([14, 15, 7], [7, 14, 15]), ([7, 16], [7, 16]), ([17, 7], [17]), ([18], [18]), ([19, 18], [18, 19]), ([18], [18]), ([18], [18]), ([22, 18], [18, 22]), ([21, 23, 18], [18, 21, 23]), ([20, 24, 18], [18, 20, 24]), ([25, 18], [18, 25]), ([26, 18], [18, 26]), ([18, 27], [18, 27]), ([28, 18, 0, 1, 2, 3, 4, 5, 6, 7, 8, 9, 10, 11, 12, 13, 14, 15, 16, 17, 18, 19, 20, 21, 22, 23, 24, 25, 26, 27, 28], [28])])
def impl_startsBlock.B1 : List Nat := [0, 1, 3, 7, 15, 31, 63, 127, 255, 255, 767, 2047, 255, 4351, 16383, 255, 65535, 131071, 262143, 524287, 1048575, 524287, 524287, 4718591, 15204351, 33554431, 67108863, 134217727, 268435455, 536870911]
theorem impl_startsBlock.tab1 : rtab .any (opsOf Tryd.f114 1) = impl_startsBlock.T1 := kr
theorem impl_startsBlock.bits1 : waitsOk impl_startsBlock.T1.2 impl_startsBlock.B1 = true := kr
set_option maxHeartbeats 2000000 in
set_option maxRecDepth 100000 in
theorem impl_startsBlock.calls (a0_0 : Int) (a0_1 : Int) (a0_2 : Int) (a0_3 : Int) (a1 : Int) (r : Bool) (w : World) (h : impl_startsBlock.f a0_0 a0_1 a0_2 a0_3 a1 = some r) :
    Calls Tryd.prog 114 #[.agg #[.int .i64 a0_0, .int .i64 a0_1, .int .u32 a0_2, .int .i64 a0_3], .int .i64 a1] w fun e w' => e = .returned (.bool r) ∧ Below w.heap.size w w' := by
  have hu91 := Tryd.underlying91
  have HB := Aside0.mk (Below.refl w.heap.size w)
  unfold impl_startsBlock.f at h
  have H := h
  clear h
  replace H := ieq H
  rcases H with ⟨c3b0, c3b1, H⟩ | ⟨c3, c3b0, c3b1, H⟩
  · replace H := bn H
    obtain ⟨t266, A4, H⟩ := H
    try dsimp only at H
    replace H := ib H
    rcases H with ⟨rfl, H⟩ | ⟨rfl, H⟩
    · by_cases c6 : 0 ≤ a0_1
      · rw [if_pos c6] at H
        have c6b0 := eq_true c6
        have c6b1 : decide (0 ≤ a0_1) = true := decide_eq_true c6
        clear c6
        obtain ⟨ji7, hji7⟩ : ∃ j_ : Int, (shr .i64 a1 a0_1) = j_ := ⟨_, rfl⟩
        first | rw [hji7] at H | simp only [hji7] at H
        (try rw [hji7] at A4)
        have hji7_ : (a1 / 2 ^ min a0_1.toNat 64) = ji7 := hji7
        have hji7z : a0_1 ≤ 64 → (a1 / 2 ^ a0_1.toNat) = ji7 := shr_small hji7
        have c8b0 := eq_true (of_decide_eq_true as_ : 0 ≤ a0_1)
        obtain ⟨ji9, hji9⟩ : ∃ j_ : Int, (shl .i64 (ji7) a0_1) = j_ := ⟨_, rfl⟩
        first | rw [hji9] at H | simp only [hji9] at H
        (try rw [hji9] at A4)
        have hji9_ : (IntKind.i64.wrap ((ji7) * 2 ^ min a0_1.toNat 64)) = ji9 := hji9
        have hji9z : a0_1 ≤ 64 → (IntKind.i64.wrap ((ji7) * 2 ^ a0_1.toNat)) = ji9 := shl_small hji9
        have hji9y : (wrap64 ((ji7) * 2 ^ min a0_1.toNat 64)) = ji9 := (i64_w _).symm.trans hji9_
        have hji9x : a0_1 ≤ 64 → (wrap64 ((ji7) * 2 ^ a0_1.toNat)) = ji9 := fun h_ => (i64_w _).symm.trans (hji9z h_)
        replace H := ieq H
        rcases H with ⟨c10b0, c10b1, H⟩ | ⟨c10, c10b0, c10b1, H⟩
        · have c11b0 := eq_true (of_decide_eq_true as_ : 0 ≤ a0_1)
          by_cases c12 : 0 ≤ (ji7)
          · rw [if_pos c12] at H
            have c12b0 := eq_true c12
            have c12b1 : decide (0 ≤ (ji7)) = true := decide_eq_true c12
            clear c12
            obtain ⟨ji13, hji13⟩ : ∃ j_ : Int, (shr .u32 a0_2 (ji7)) = j_ := ⟨_, rfl⟩
            first | rw [hji13] at H | simp only [hji13] at H
            (try rw [hji13] at A4)
            have hji13_ : (a0_2 / 2 ^ min (ji7).toNat 32) = ji13 := hji13
            have hji13z : (ji7) ≤ 32 → (a0_2 / 2 ^ (ji7).toNat) = ji13 := shr_small hji13
            obtain rfl := Option.some.inj H
            go_enter Tryd.func114, Tryd.ntmps114
            try go_wp2_with (first | ((with_reducible refine gd 2 ?_); refine bx 2 91 #[.int .i64 a0_0, .int .i64 a0_1, .int .u32 a0_2, .int .i64 a0_3] ?_; clear HB; intro gb265 w14 hg BK265 hb GE265 HB; clear hb hg))
            replace BK265 := bd BK265
            replace HB := hd HB
            refine st 30 (fun w' => CA w' gb265 0 [.int .i64 a0_0, .int .i64 a0_1, .int .u32 a0_2, .int .i64 a0_3]) [] (cx BK265) impl_startsBlock.tab1 impl_startsBlock.bits1 ?_; intro hHeld HT_ HW_
            generalize w14.drew = w15 at BK265 HB hHeld ⊢
            refine pu 0 5 (bl 30 1) ?_
            refine tk 1 6 (bl 30 3) ?_
            refine pu 2 7 (bl 30 7) ?_
            refine pu 3 8 (bl 30 15) ?_
            refine pu 4 9 (bl 30 31) ?_
            refine on_ 5 (some 10) (bl 30 63) (fun K hK => ?_)
            refine gq Tryd.func72 (impl_within.calls _ _ _ _ _ A4.out) ?_
            rintro e w' ⟨rfl, ⟨nd, rfl⟩⟩
            refine ⟨_, rfl, ?_⟩
            refine hK.out _ _ (cx BK265) (fun hHeld => ?_)
            clear hK K
            refine nm ?_
            refine pu 6 11 (bl 30 127) ?_
            refine pu 7 12 (bl 30 255) ?_
            refine pu 8 13 (bl 30 511) ?_
            refine pu 9 14 (bl 30 1023) ?_
            refine pu 12 17 (bl 30 5119) ?_
            refine pu 15 20 (bl 30 37887) ?_
            refine tk 10 15 (bl 30 38911) ?_
            refine pu 11 16 (bl 30 40959) ?_
            refine tk 13 18 (bl 30 49151) ?_
            refine pu 14 19 (bl 30 65535) ?_
            refine pu 16 21 (bl 30 131071) ?_
            refine pu 17 22 (bl 30 262143) ?_
            refine pu 18 23 (bl 30 524287) ?_
            refine pu 19 24 (bl 30 1048575) ?_
            refine pu 21 26 (bl 30 3145727) ?_
            refine pu 22 27 (bl 30 7340031) ?_
            refine tk 20 25 (bl 30 8388607) ?_
            refine tk 23 28 (bl 30 16777215) ?_
            refine pu 24 29 (bl 30 33554431) ?_
            refine pu 25 30 (bl 30 67108863) ?_
            refine pu 26 31 (bl 30 134217727) ?_
            refine pu 27 32 (bl 30 268435455) ?_
            refine pu 28 33 (bl 30 536870911) ?_
            refine pu 29 4 (bl 30 1073741823) ?_
            refine dn ?_ _
            try go_wp2
            go_ret
            exact ⟨by first | exact rt1 | (simp only [← hji7, ← hji9, ← hji13]; exact rt1) | exact rt, bw⟩
          · rw [if_neg c12] at H
            exact absurd H (by simp)
        · obtain rfl := Option.some.inj H
          go_enter Tryd.func114, Tryd.ntmps114
          try go_wp2_with (first | ((with_reducible refine gd 2 ?_); refine bx 2 91 #[.int .i64 a0_0, .int .i64 a0_1, .int .u32 a0_2, .int .i64 a0_3] ?_; clear HB; intro gb265 w16 hg BK265 hb GE265 HB; clear hb hg))
          replace BK265 := bd BK265
          replace HB := hd HB
          refine st 30 (fun w' => CA w' gb265 0 [.int .i64 a0_0, .int .i64 a0_1, .int .u32 a0_2, .int .i64 a0_3]) [] (cx BK265) impl_startsBlock.tab1 impl_startsBlock.bits1 ?_; intro hHeld HT_ HW_
          generalize w16.drew = w17 at BK265 HB hHeld ⊢
          refine pu 0 5 (bl 30 1) ?_
          refine tk 1 6 (bl 30 3) ?_
          refine pu 2 7 (bl 30 7) ?_
          refine pu 3 8 (bl 30 15) ?_
          refine pu 4 9 (bl 30 31) ?_
          refine on_ 5 (some 10) (bl 30 63) (fun K hK => ?_)
          refine gq Tryd.func72 (impl_within.calls _ _ _ _ _ A4.out) ?_
          rintro e w' ⟨rfl, ⟨nd, rfl⟩⟩
          refine ⟨_, rfl, ?_⟩
          refine hK.out _ _ (cx BK265) (fun hHeld => ?_)
          clear hK K
          refine nm ?_
          refine pu 6 11 (bl 30 127) ?_
          refine pu 7 12 (bl 30 255) ?_
          refine pu 8 13 (bl 30 511) ?_
          refine pu 9 14 (bl 30 1023) ?_
          refine pu 12 17 (bl 30 5119) ?_
          refine pu 15 20 (bl 30 37887) ?_
          refine tk 10 15 (bl 30 38911) ?_
          refine pu 11 16 (bl 30 40959) ?_
          refine tk 13 18 (bl 30 49151) ?_
          refine pu 14 19 (bl 30 65535) ?_
          refine pu 16 21 (bl 30 131071) ?_
          refine pu 17 22 (bl 30 262143) ?_
          refine pu 18 23 (bl 30 524287) ?_
          refine pf 19 24 (bl 30 1048575) ?_
          refine pf 20 25 (bl 30 2097151) ?_
          refine pf 21 26 (bl 30 4194303) ?_
          refine pf 22 27 (bl 30 8388607) ?_
          refine pf 23 28 (bl 30 16777215) ?_
          refine pf 24 29 (bl 30 33554431) ?_
          refine pf 25 30 (bl 30 67108863) ?_
          refine pf 26 31 (bl 30 134217727) ?_
          refine pf 27 32 (bl 30 268435455) ?_
          refine pu 28 33 (bl 30 536870911) ?_
          refine pu 29 4 (bl 30 1073741823) ?_
          refine dn ?_ _
          try go_wp2
          go_ret
          exact ⟨by first | exact rt1 | (simp only [← hji7, ← hji9]; exact rt1) | exact rt, bw⟩
      · rw [if_neg c6] at H
        exact absurd H (by simp)
    · obtain rfl := Option.some.inj H
      go_enter Tryd.func114, Tryd.ntmps114
      try go_wp2_with (first | ((with_reducible refine gd 2 ?_); refine bx 2 91 #[.int .i64 a0_0, .int .i64 a0_1, .int .u32 a0_2, .int .i64 a0_3] ?_; clear HB; intro gb265 w18 hg BK265 hb GE265 HB; clear hb hg))
      replace BK265 := bd BK265
      replace HB := hd HB
      refine st 30 (fun w' => CA w' gb265 0 [.int .i64 a0_0, .int .i64 a0_1, .int .u32 a0_2, .int .i64 a0_3]) [] (cx BK265) impl_startsBlock.tab1 impl_startsBlock.bits1 ?_; intro hHeld HT_ HW_
      generalize w18.drew = w19 at BK265 HB hHeld ⊢
      refine pu 0 5 (bl 30 1) ?_
      refine tk 1 6 (bl 30 3) ?_
      refine pu 2 7 (bl 30 7) ?_
      refine pu 3 8 (bl 30 15) ?_
      refine pu 4 9 (bl 30 31) ?_
      refine on_ 5 (some 10) (bl 30 63) (fun K hK => ?_)
      refine gq Tryd.func72 (impl_within.calls _ _ _ _ _ A4.out) ?_
      rintro e w' ⟨rfl, ⟨nd, rfl⟩⟩
      refine ⟨_, rfl, ?_⟩
      refine hK.out _ _ (cx BK265) (fun hHeld => ?_)
      clear hK K
      refine nm ?_
      refine pu 6 11 (bl 30 127) ?_
      refine pu 7 12 (bl 30 255) ?_
      refine pf 8 13 (bl 30 511) ?_
      refine pf 9 14 (bl 30 1023) ?_
      refine pf 10 15 (bl 30 2047) ?_
      refine pf 11 16 (bl 30 4095) ?_
      refine pf 12 17 (bl 30 8191) ?_
      refine pf 13 18 (bl 30 16383) ?_
      refine pf 14 19 (bl 30 32767) ?_
      refine pf 15 20 (bl 30 65535) ?_
      refine pf 16 21 (bl 30 131071) ?_
      refine pu 17 22 (bl 30 262143) ?_
      refine pu 18 23 (bl 30 524287) ?_
      refine pf 19 24 (bl 30 1048575) ?_
      refine pf 20 25 (bl 30 2097151) ?_
      refine pf 21 26 (bl 30 4194303) ?_
      refine pf 22 27 (bl 30 8388607) ?_
      refine pf 23 28 (bl 30 16777215) ?_
      refine pf 24 29 (bl 30 33554431) ?_
      refine pf 25 30 (bl 30 67108863) ?_
      refine pf 26 31 (bl 30 134217727) ?_
      refine pf 27 32 (bl 30 268435455) ?_
      refine pu 28 33 (bl 30 536870911) ?_
      refine pu 29 4 (bl 30 1073741823) ?_
      refine dn ?_ _
      try go_wp2
      go_ret
      exact ⟨rt, bw⟩
  · obtain rfl := Option.some.inj H
    go_enter Tryd.func114, Tryd.ntmps114
    try go_wp2_with (first | ((with_reducible refine gd 2 ?_); refine bx 2 91 #[.int .i64 a0_0, .int .i64 a0_1, .int .u32 a0_2, .int .i64 a0_3] ?_; clear HB; intro gb265 w20 hg BK265 hb GE265 HB; clear hb hg))
    replace BK265 := bd BK265
    replace HB := hd HB
    refine st 30 (fun w' => CA w' gb265 0 [.int .i64 a0_0, .int .i64 a0_1, .int .u32 a0_2, .int .i64 a0_3]) [] (cx BK265) impl_startsBlock.tab1 impl_startsBlock.bits1 ?_; intro hHeld HT_ HW_
    generalize w20.drew = w21 at BK265 HB hHeld ⊢
    refine pu 0 5 (bl 30 1) ?_
    refine tk 1 6 (bl 30 3) ?_
    refine pu 2 7 (bl 30 7) ?_
    refine pu 3 8 (bl 30 15) ?_
    refine pf 4 9 (bl 30 31) ?_
    refine pf 5 10 (bl 30 63) ?_
    refine pu 6 11 (bl 30 127) ?_
    refine pu 7 12 (bl 30 255) ?_
    refine pf 8 13 (bl 30 511) ?_
    refine pf 9 14 (bl 30 1023) ?_
    refine pf 10 15 (bl 30 2047) ?_
    refine pf 11 16 (bl 30 4095) ?_
    refine pf 12 17 (bl 30 8191) ?_
    refine pf 13 18 (bl 30 16383) ?_
    refine pf 14 19 (bl 30 32767) ?_
    refine pf 15 20 (bl 30 65535) ?_
    refine pf 16 21 (bl 30 131071) ?_
    refine pu 17 22 (bl 30 262143) ?_
    refine pu 18 23 (bl 30 524287) ?_
    refine pf 19 24 (bl 30 1048575) ?_
    refine pf 20 25 (bl 30 2097151) ?_
    refine pf 21 26 (bl 30 4194303) ?_
    refine pf 22 27 (bl 30 8388607) ?_
    refine pf 23 28 (bl 30 16777215) ?_
    refine pf 24 29 (bl 30 33554431) ?_
    refine pf 25 30 (bl 30 67108863) ?_
    refine pf 26 31 (bl 30 134217727) ?_
    refine pf 27 32 (bl 30 268435455) ?_
    refine pu 28 33 (bl 30 536870911) ?_
    refine pu 29 4 (bl 30 1073741823) ?_
    refine dn ?_ _
    try go_wp2
    go_ret
    exact ⟨rt, bw⟩

end Go.Proofs.YtfhcnnkeokjfpaaDoor.PB1
