/- What functions of the program compute, each as a Lean function, and that the run comes to just that. Conditions: none. (Laid by this session's own program.) -/
import Derived.Test.YtokgcjkdbhnlbaaPA1x0
import Derived.Test.YtokgcjkdbhnlbaaPA1x4
namespace Go.Proofs.Ytokgcjkdbhnlbaa.PA1
open Go.RowKit Go.Proofs.YtokgcjkdbhnlbaaW.PrintWords Go.Proofs.YtokgcjkdbhnlbaaW.PrintLast Go.Proofs.YtokgcjkdbhnlbaaW.PrintMore
attribute [local go_sem] max2_int min2_int max_two min_two max_three min_three max_four min_four   -- for this text's walks alone
set_option linter.unusedVariables false
set_option linter.unusedSimpArgs false

/-! ### spec_DrawWarpStart: function 17 -/
def spec_DrawWarpStart.f (l0 : List Int) : Option (Int × Int × Int) := (spec_l01Open.f l0).bind fun bt186 => ((spec_l01Cur_pick.f bt186.1 bt186.2.1 bt186.2.2 5).bind fun bt190 => ((spec_l01Cur_pick.f bt186.1 bt190.2.1 bt190.2.2 4).bind fun bt193 => ((spec_l01Cur_raw.f bt186.1 bt193.2.1 bt193.2.2).bind fun bt196 => ((some (([bt190.1, bt193.1, bt196.1] : List Int) : List Int)).bind fun y199 => ((spec_l01Cur_pick.f bt186.1 bt196.2.1 bt196.2.2 3).bind fun bt202 => (if 0 ≤ bt202.1 then (if bt202.1 < (y199.length : Int) then ((spec_l01Cur_pick.f bt186.1 bt202.2.1 bt202.2.2 6).bind fun bt206 => ((spec_l01Cur_pick.f bt186.1 bt206.2.1 bt206.2.2 5).bind fun bt209 => ((spec_l01Cur_raw.f bt186.1 bt209.2.1 bt209.2.2).bind fun bt212 => ((some (([bt206.1, bt209.1, bt212.1] : List Int) : List Int)).bind fun y215 => ((spec_l01Cur_pick.f bt186.1 bt212.2.1 bt212.2.2 3).bind fun bt218 => (if 0 ≤ bt218.1 then (if bt218.1 < (y215.length : Int) then ((spec_l01Cur_pick.f bt186.1 bt218.2.1 bt218.2.2 16).bind fun bt222 => ((spec_l01Cur_raw.f bt186.1 bt222.2.1 bt222.2.2).bind fun bt225 => ((some (([wrap64 (1 + bt222.1), 0, 17, bt225.1] : List Int) : List Int)).bind fun y228 => ((spec_l01Cur_pick.f bt186.1 bt225.2.1 bt225.2.2 4).bind fun bt231 => (if 0 ≤ bt231.1 then (if bt231.1 < (y228.length : Int) then (some (rd y199 bt202.1, rd y215 bt218.1, rd y228 bt231.1)) else (none)) else (none)))))) else (none)) else (none))))))) else (none)) else (none)))))))
def spec_DrawWarpStart.T2 : Bool × List (List Nat × List Nat) := (true, [([], []), ([0], [0]), ([], []), ([2, 1], [2]), ([], []), ([4, 3], [4]), ([1, 3, 5], [1, 3, 5]), ([], []), ([7, 5], [7]), ([6, 8], [6, 8]), ([9], [9]), ([], []), ([11, 8], [11]), ([], []), ([13, 12], [13]), ([], []), ([15, 14], [15]), ([12, 14, 16], [12, 14, 16]), ([], []), ([18, 16], [18]), ([17, 19], [17, 19]), ([20], [20]), ([], []), ([22, 19], [22]), ([23], [23]), ([], []), ([25, 23], [25]), ([24, 26], [24, 26]), ([], []), ([28, 26], [28]), ([27, 29], [27, 29]), ([30], [30]), ([10, 29, 0, 1, 2, 3, 4, 5, 6, 7, 8, 9, 10], [10]), ([21, 32, 0, 1, 2, 3, 4, 5, 6, 7, 8, 9, 10, 11, 12, 13, 14, 15, 16, 17, 18, 19, 20, 21, 32], [21]), ([31, 33, 0, 1, 2, 3, 4, 5, 6, 7, 8, 9, 10, 11, 12, 13, 14, 15, 16, 17, 18, 19, 20, 21, 22, 23, 24, 25, 26, 27, 28, 29, 30, 31, 32, 33], [31])])
def spec_DrawWarpStart.B2 : List Nat := [0, 1, 0, 7, 0, 31, 63, 0, 191, 511, 1023, 0, 2495, 0, 14783, 0, 63935, 129471, 0, 391615, 1046975, 2095551, 0, 5110207, 13498815, 0, 47053247, 130939327, 0, 382597567, 1070463423, 2144205247, 919470079, 5217714175, 17179869183]
theorem spec_DrawWarpStart.tab2 : rtab .any (opsOf Try.f17 2) = spec_DrawWarpStart.T2 := by kernel_rfl
theorem spec_DrawWarpStart.bits2 : waitsOk spec_DrawWarpStart.T2.2 spec_DrawWarpStart.B2 = true := by kernel_rfl
set_option maxHeartbeats 8000000 in
set_option maxRecDepth 100000 in
theorem spec_DrawWarpStart.calls (A0 : Option Addr) (c0 : Nat) (l0 : List Int) (r1 : Int) (r2 : Int) (r3 : Int) (w : World) (hr0 : Kd.C (Kd.int .u8) w A0 l0.length l0) (hc0 : l0.length ≤ c0) (h : spec_DrawWarpStart.f l0 = some (r1, r2, r3)) :
    Calls Try.prog 17 #[.slice A0 l0.length c0] w fun e w' => e = .returned (.tuple #[.int .i64 r1, .int .i64 r2, .int .i64 r3]) ∧ Below w.heap.size w w' := by
  have HR0 := Aside0.mk hr0
  have HC0 := Aside0.mk hc0
  clear hr0 hc0
  have HB := Aside0.mk (Below.refl w.heap.size w)
  unfold spec_DrawWarpStart.f at h
  have H := h
  clear h
  replace H := Option.bind_eq_some_iff.mp H
  obtain ⟨⟨t186, t187, t188⟩, A20, H⟩ := H
  try dsimp only at H
  have A2 := Aside0.mk A20
  clear A20
  replace H := Option.bind_eq_some_iff.mp H
  obtain ⟨⟨t190, t191, t192⟩, A30, H⟩ := H
  try dsimp only at H
  have A3 := Aside0.mk A30
  clear A30
  replace H := Option.bind_eq_some_iff.mp H
  obtain ⟨⟨t193, t194, t195⟩, A40, H⟩ := H
  try dsimp only at H
  have A4 := Aside0.mk A40
  clear A40
  replace H := Option.bind_eq_some_iff.mp H
  obtain ⟨⟨t196, t197, t198⟩, A50, H⟩ := H
  try dsimp only at H
  have A5 := Aside0.mk A50
  clear A50
  obtain ⟨y199, hy199⟩ : ∃ y_ : List Int, y_ = (([t190, t193, t196] : List Int)) := ⟨_, rfl⟩
  first | rw [Option.bind_some, ← hy199] at H | rw [← hy199] at H | rw [Option.bind_some] at H | skip
  have Ny199 := Aside0.mk hy199
  clear hy199
  replace H := Option.bind_eq_some_iff.mp H
  obtain ⟨⟨t202, t203, t204⟩, A60, H⟩ := H
  try dsimp only at H
  have A6 := Aside0.mk A60
  clear A60
  by_cases c7 : 0 ≤ t202
  · rw [if_pos c7] at H
    have c7b0 : decide (0 ≤ t202) = true := decide_eq_true c7
    clear c7
    by_cases c8 : t202 < (y199.length : Int)
    · rw [if_pos c8] at H
      have c8b0 : decide (t202 < (y199.length : Int)) = true := decide_eq_true c8
      clear c8
      replace H := Option.bind_eq_some_iff.mp H
      obtain ⟨⟨t206, t207, t208⟩, A90, H⟩ := H
      try dsimp only at H
      have A9 := Aside0.mk A90
      clear A90
      replace H := Option.bind_eq_some_iff.mp H
      obtain ⟨⟨t209, t210, t211⟩, A100, H⟩ := H
      try dsimp only at H
      have A10 := Aside0.mk A100
      clear A100
      replace H := Option.bind_eq_some_iff.mp H
      obtain ⟨⟨t212, t213, t214⟩, A110, H⟩ := H
      try dsimp only at H
      have A11 := Aside0.mk A110
      clear A110
      obtain ⟨y215, hy215⟩ : ∃ y_ : List Int, y_ = (([t206, t209, t212] : List Int)) := ⟨_, rfl⟩
      first | rw [Option.bind_some, ← hy215] at H | rw [← hy215] at H | rw [Option.bind_some] at H | skip
      have Ny215 := Aside0.mk hy215
      clear hy215
      replace H := Option.bind_eq_some_iff.mp H
      obtain ⟨⟨t218, t219, t220⟩, A120, H⟩ := H
      try dsimp only at H
      have A12 := Aside0.mk A120
      clear A120
      by_cases c13 : 0 ≤ t218
      · rw [if_pos c13] at H
        have c13b0 : decide (0 ≤ t218) = true := decide_eq_true c13
        clear c13
        by_cases c14 : t218 < (y215.length : Int)
        · rw [if_pos c14] at H
          have c14b0 : decide (t218 < (y215.length : Int)) = true := decide_eq_true c14
          clear c14
          replace H := Option.bind_eq_some_iff.mp H
          obtain ⟨⟨t222, t223, t224⟩, A150, H⟩ := H
          try dsimp only at H
          have A15 := Aside0.mk A150
          clear A150
          replace H := Option.bind_eq_some_iff.mp H
          obtain ⟨⟨t225, t226, t227⟩, A160, H⟩ := H
          try dsimp only at H
          have A16 := Aside0.mk A160
          clear A160
          obtain ⟨y228, hy228⟩ : ∃ y_ : List Int, y_ = (([wrap64 (1 + t222), 0, 17, t225] : List Int)) := ⟨_, rfl⟩
          first | rw [Option.bind_some, ← hy228] at H | rw [← hy228] at H | rw [Option.bind_some] at H | skip
          have Ny228 := Aside0.mk hy228
          clear hy228
          replace H := Option.bind_eq_some_iff.mp H
          obtain ⟨⟨t231, t232, t233⟩, A170, H⟩ := H
          try dsimp only at H
          have A17 := Aside0.mk A170
          clear A170
          by_cases c18 : 0 ≤ t231
          · rw [if_pos c18] at H
            have c18b0 : decide (0 ≤ t231) = true := decide_eq_true c18
            clear c18
            by_cases c19 : t231 < (y228.length : Int)
            · rw [if_pos c19] at H
              have c19b0 : decide (t231 < (y228.length : Int)) = true := decide_eq_true c19
              clear c19
              simp only [Option.some.injEq, Prod.mk.injEq] at H
              obtain ⟨rfl, rfl, rfl⟩ := H
              go_enter Try.func17, Try.ntmps17
              try go_wp2_with (first | ((with_reducible refine gate_callee (f := 32) rfl ?_); refine goesL_ (some 7) rfl rfl Try.func32 (by kernel_rfl) rfl #[.slice A0 l0.length c0] rfl (by (try simp only [List.map_toArray, List.map_cons, List.map_nil]); first | done | rfl | (simp only [List.length_drop, List.length_take]; rfl)) ?_; (with_reducible refine (spec_l01Open.calls _ _ l0 t186 t187 t188 w _ ?side1 ?side2 ?side3 A2.out).mono ?_); (case side1 => repeat (first | (with_reducible first | exact HB.out | apply below_alloc | apply pw_below_drewN | apply below_drew1) | exact HB.out)); (case side2 => exact HR0.out); (case side3 => exact HC0.out); rintro e w20 ⟨g189, rfl, hi, hb, hb2⟩; refine ⟨_, rfl, ?_⟩; have n0_ := Aside0.mk (hb); have n1_ := Aside0.mk (hi); clear HB; have HB := n0_; have HI189 := n1_; clear n0_ n1_; (try clear hb); (try clear hb2); (try clear hk); (try clear hi)))
              have pi205 : (0 ≤ (t202 : Int)) = True := eq_true (of_decide_eq_true (by first | (with_reducible assumption) | assumption))
              have qi205 : (t202 < (y199.length : Int)) = True := eq_true (of_decide_eq_true (by first | (with_reducible assumption) | assumption))
              have pi221 : (0 ≤ (t218 : Int)) = True := eq_true (of_decide_eq_true (by first | (with_reducible assumption) | assumption))
              have qi221 : (t218 < (y215.length : Int)) = True := eq_true (of_decide_eq_true (by first | (with_reducible assumption) | assumption))
              have pi234 : (0 ≤ (t231 : Int)) = True := eq_true (of_decide_eq_true (by first | (with_reducible assumption) | assumption))
              have qi234 : (t231 < (y228.length : Int)) = True := eq_true (of_decide_eq_true (by first | (with_reducible assumption) | assumption))
              have n0_ := Aside0.mk (IsS64.drew HI189.out)
              have n1_ := Aside0.mk (below_drew1 HB.out)
              clear HI189
              clear HB
              have HI189 := n0_
              have HB := n1_
              clear n0_ n1_
              refine start_ (n := 35) (S := fun w' => True) (ds := []) #[false, false, false, false, false, false, false, false, false, false, false, false, false, false, false, false, false, false, false, false, false, false, false, false, false, false, false, false, false, false, false, false, false, false, false] (by kernel_rfl) rfl rfl trivial (fun hHeld => ?_); refine with_tabW spec_DrawWarpStart.tab2 spec_DrawWarpStart.bits2 (fun HT_ HW_ => ?_)
              generalize w20.drew = w21 at HI189 HB hHeld ⊢
              refine pure_ (i := 0) (N := some 8) (v := ?_) (a' := ?_) #[true, false, false, false, false, false, false, false, false, false, false, false, false, false, false, false, false, false, false, false, false, false, false, false, false, false, false, false, false, false, false, false, false, false, false] rfl rfl (any_of HT_.out (by kernel_rfl)) (fun _ _ _ h => h) (Or.inl ⟨by rfl, ?_⟩) ?_ ?_
              rotate_left
              · intro w'
                go_simp
                with_reducible rfl
              rotate_left
              · simp only [Act.put, List.setIfInBounds_toArray, List.set_cons_zero, List.set_cons_succ, i64_w, i32_w]
                rfl
              refine pure_ (i := 2) (N := some 10) (v := ?_) (a' := ?_) #[true, false, true, false, false, false, false, false, false, false, false, false, false, false, false, false, false, false, false, false, false, false, false, false, false, false, false, false, false, false, false, false, false, false, false] rfl rfl (any_of HT_.out (by kernel_rfl)) (fun _ _ _ h => h) (Or.inl ⟨by rfl, ?_⟩) ?_ ?_
              rotate_left
              · intro w'
                go_simp
                with_reducible rfl
              rotate_left
              · simp only [Act.put, List.setIfInBounds_toArray, List.set_cons_zero, List.set_cons_succ, i64_w, i32_w]
                rfl
              refine pure_ (i := 4) (N := some 12) (v := ?_) (a' := ?_) #[true, false, true, false, true, false, false, false, false, false, false, false, false, false, false, false, false, false, false, false, false, false, false, false, false, false, false, false, false, false, false, false, false, false, false] rfl rfl (any_of HT_.out (by kernel_rfl)) (fun _ _ _ h => h) (Or.inl ⟨by rfl, ?_⟩) ?_ ?_
              rotate_left
              · intro w'
                go_simp
                with_reducible rfl
              rotate_left
              · simp only [Act.put, List.setIfInBounds_toArray, List.set_cons_zero, List.set_cons_succ, i64_w, i32_w]
                rfl
              refine pure_ (i := 7) (N := some 15) (v := ?_) (a' := ?_) #[true, false, true, false, true, false, false, true, false, false, false, false, false, false, false, false, false, false, false, false, false, false, false, false, false, false, false, false, false, false, false, false, false, false, false] rfl rfl (any_of HT_.out (by kernel_rfl)) (fun _ _ _ h => h) (Or.inl ⟨by rfl, ?_⟩) ?_ ?_
              rotate_left
              · intro w'
                go_simp
                with_reducible rfl
              rotate_left
              · simp only [Act.put, List.setIfInBounds_toArray, List.set_cons_zero, List.set_cons_succ, i64_w, i32_w]
                rfl
              refine pure_ (i := 11) (N := some 19) (v := ?_) (a' := ?_) #[true, false, true, false, true, false, false, true, false, false, false, true, false, false, false, false, false, false, false, false, false, false, false, false, false, false, false, false, false, false, false, false, false, false, false] rfl rfl (any_of HT_.out (by kernel_rfl)) (fun _ _ _ h => h) (Or.inl ⟨by rfl, ?_⟩) ?_ ?_
              rotate_left
              · intro w'
                go_simp
                with_reducible rfl
              rotate_left
              · simp only [Act.put, List.setIfInBounds_toArray, List.set_cons_zero, List.set_cons_succ, i64_w, i32_w]
                rfl
              refine pure_ (i := 13) (N := some 21) (v := ?_) (a' := ?_) #[true, false, true, false, true, false, false, true, false, false, false, true, false, true, false, false, false, false, false, false, false, false, false, false, false, false, false, false, false, false, false, false, false, false, false] rfl rfl (any_of HT_.out (by kernel_rfl)) (fun _ _ _ h => h) (Or.inl ⟨by rfl, ?_⟩) ?_ ?_
              rotate_left
              · intro w'
                go_simp
                with_reducible rfl
              rotate_left
              · simp only [Act.put, List.setIfInBounds_toArray, List.set_cons_zero, List.set_cons_succ, i64_w, i32_w]
                rfl
              refine pure_ (i := 15) (N := some 23) (v := ?_) (a' := ?_) #[true, false, true, false, true, false, false, true, false, false, false, true, false, true, false, true, false, false, false, false, false, false, false, false, false, false, false, false, false, false, false, false, false, false, false] rfl rfl (any_of HT_.out (by kernel_rfl)) (fun _ _ _ h => h) (Or.inl ⟨by rfl, ?_⟩) ?_ ?_
              rotate_left
              · intro w'
                go_simp
                with_reducible rfl
              rotate_left
              · simp only [Act.put, List.setIfInBounds_toArray, List.set_cons_zero, List.set_cons_succ, i64_w, i32_w]
                rfl
              refine pure_ (i := 18) (N := some 26) (v := ?_) (a' := ?_) #[true, false, true, false, true, false, false, true, false, false, false, true, false, true, false, true, false, false, true, false, false, false, false, false, false, false, false, false, false, false, false, false, false, false, false] rfl rfl (any_of HT_.out (by kernel_rfl)) (fun _ _ _ h => h) (Or.inl ⟨by rfl, ?_⟩) ?_ ?_
              rotate_left
              · intro w'
                go_simp
                with_reducible rfl
              rotate_left
              · simp only [Act.put, List.setIfInBounds_toArray, List.set_cons_zero, List.set_cons_succ, i64_w, i32_w]
                rfl
              refine pure_ (i := 22) (N := some 30) (v := ?_) (a' := ?_) #[true, false, true, false, true, false, false, true, false, false, false, true, false, true, false, true, false, false, true, false, false, false, true, false, false, false, false, false, false, false, false, false, false, false, false] rfl rfl (any_of HT_.out (by kernel_rfl)) (fun _ _ _ h => h) (Or.inl ⟨by rfl, ?_⟩) ?_ ?_
              rotate_left
              · intro w'
                go_simp
                with_reducible rfl
              rotate_left
              · simp only [Act.put, List.setIfInBounds_toArray, List.set_cons_zero, List.set_cons_succ, i64_w, i32_w]
                rfl
              refine pure_ (i := 25) (N := some 33) (v := ?_) (a' := ?_) #[true, false, true, false, true, false, false, true, false, false, false, true, false, true, false, true, false, false, true, false, false, false, true, false, false, true, false, false, false, false, false, false, false, false, false] rfl rfl (any_of HT_.out (by kernel_rfl)) (fun _ _ _ h => h) (Or.inl ⟨by rfl, ?_⟩) ?_ ?_
              rotate_left
              · intro w'
                go_simp
                with_reducible rfl
              rotate_left
              · simp only [Act.put, List.setIfInBounds_toArray, List.set_cons_zero, List.set_cons_succ, i64_w, i32_w]
                rfl
              refine pure_ (i := 28) (N := some 36) (v := ?_) (a' := ?_) #[true, false, true, false, true, false, false, true, false, false, false, true, false, true, false, true, false, false, true, false, false, false, true, false, false, true, false, false, true, false, false, false, false, false, false] rfl rfl (any_of HT_.out (by kernel_rfl)) (fun _ _ _ h => h) (Or.inl ⟨by rfl, ?_⟩) ?_ ?_
              rotate_left
              · intro w'
                go_simp
                with_reducible rfl
              rotate_left
              · simp only [Act.put, List.setIfInBounds_toArray, List.set_cons_zero, List.set_cons_succ, i64_w, i32_w]
                rfl
              refine inv_at [1, 3, 5, 6, 8, 9, 10, 12, 14, 16, 17, 19, 20, 21, 23, 24, 26, 27, 29, 30, 31, 32, 33, 34] (fun a0_ b a w' => ∃ (v200 : Value) (adz_v200 : Addr) (v216 : Value) (adz_v216 : Addr) (v229 : Value) (adz_v229 : Addr) (m9_ : Value) (m20_ : Value) (m30_ : Value), a = putSel a0_ b [(1, 9, .int .i64 t190), (3, 11, .int .i64 t193), (5, 13, .int .i64 t196), (6, 14, v200), (8, 16, .int .i64 t202), (9, 17, m9_), (10, 18, .int .i64 (rd y199 t202)), (12, 20, .int .i64 t206), (14, 22, .int .i64 t209), (16, 24, .int .i64 t212), (17, 25, v216), (19, 27, .int .i64 t218), (20, 28, m20_), (21, 29, .int .i64 (rd y215 t218)), (23, 31, .int .i64 t222), (24, 32, .int .i64 (wrap64 (1 + t222))), (26, 34, .int .i64 t225), (27, 35, v229), (29, 37, .int .i64 t231), (30, 38, m30_), (31, 39, .int .i64 (rd y228 t231)), (32, 2, .int .i64 (rd y199 t202)), (33, 3, .int .i64 (rd y215 t218)), (34, 4, .int .i64 (rd y228 t231))] ∧ (b 1 = false → IsS64 w w' g189 t186 t187 t188) ∧ (Below w.heap.size w w') ∧ (b 1 = true → b 3 = false → IsS64 w w' g189 t186 t191 t192) ∧ (b 3 = true → b 5 = false → IsS64 w w' g189 t186 t194 t195) ∧ (b 5 = true → b 8 = false → IsS64 w w' g189 t186 t197 t198) ∧ (b 6 = true → Kd.R (Kd.int .i64) 3 w' w.heap.size (fun _ => True) v200 y199) ∧ (b 6 = true → ∃ c_, (v200 : Value) = .slice (some adz_v200) y199.length c_) ∧ (b 8 = true → b 12 = false → IsS64 w w' g189 t186 t203 t204) ∧ (b 12 = true → b 14 = false → IsS64 w w' g189 t186 t207 t208) ∧ (b 14 = true → b 16 = false → IsS64 w w' g189 t186 t210 t211) ∧ (b 16 = true → b 19 = false → IsS64 w w' g189 t186 t213 t214) ∧ (b 17 = true → Kd.R (Kd.int .i64) 3 w' w.heap.size (fun _ => True) v216 y215) ∧ (b 17 = true → ∃ c_, (v216 : Value) = .slice (some adz_v216) y215.length c_) ∧ (b 19 = true → b 23 = false → IsS64 w w' g189 t186 t219 t220) ∧ (b 23 = true → b 26 = false → IsS64 w w' g189 t186 t223 t224) ∧ (b 26 = true → b 29 = false → IsS64 w w' g189 t186 t226 t227) ∧ (b 27 = true → Kd.R (Kd.int .i64) 3 w' w.heap.size (fun _ => True) v229 y228) ∧ (b 27 = true → ∃ c_, (v229 : Value) = .slice (some adz_v229) y228.length c_) ∧ (b 29 = true → IsS64 w w' g189 t186 t232 t233) ∧ (b 9 = true → (m9_ : Value) = .pointer (some (adz_v200.add (t202).toNat))) ∧ (b 20 = true → (m20_ : Value) = .pointer (some (adz_v216.add (t218).toNat))) ∧ (b 30 = true → (m30_ : Value) = .pointer (some (adz_v229.add (t231).toNat)))) HT_.out HW_.out (by kernel_rfl) (by kernel_rfl) ?_ ?_ ?_
              · exact ⟨.bool false, ⟨0, 0, none⟩, .bool false, ⟨0, 0, none⟩, .bool false, ⟨0, 0, none⟩, .bool false, .bool false, .bool false, by simp only [putSel, Bool.false_eq_true, if_false], fun _ => HI189.out, HB.out, fun h_ => absurd h_ (by decide), fun h_ => absurd h_ (by decide), fun h_ => absurd h_ (by decide), fun h_ => absurd h_ (by decide), fun h_ => absurd h_ (by decide), fun h_ => absurd h_ (by decide), fun h_ => absurd h_ (by decide), fun h_ => absurd h_ (by decide), fun h_ => absurd h_ (by decide), fun h_ => absurd h_ (by decide), fun h_ => absurd h_ (by decide), fun h_ => absurd h_ (by decide), fun h_ => absurd h_ (by decide), fun h_ => absurd h_ (by decide), fun h_ => absurd h_ (by decide), fun h_ => absurd h_ (by decide), fun h_ => absurd h_ (by decide), fun h_ => absurd h_ (by decide), fun h_ => absurd h_ (by decide), fun h_ => absurd h_ (by decide)⟩
              · skip
                clear HB HI189
                refine steps_cons ?_ ?_
                · rintro b a w' ⟨v200, adz_v200, v216, adz_v216, v229, adz_v229, m9_, m20_, m30_, ha, Q_HI189, Q_HB, Q_HI189_e1, Q_HI189_e3, Q_HI189_e5, Q_HO201, Q_HA_HO201, Q_HI189_e8, Q_HI189_e12, Q_HI189_e14, Q_HI189_e16, Q_HO217, Q_HA_HO217, Q_HI189_e19, Q_HI189_e23, Q_HI189_e26, Q_HO230, Q_HA_HO230, Q_HI189_e29, Q_X9_, Q_X20_, Q_X30_⟩ hb_ hon hoff
                  refine ⟨_, rfl, fun K hK => ?_⟩
                  have e8 : a.tmps[8]? = some (.pointer (some ⟨g189, 0, none⟩)) := by rw [ha]; exact (putSel_off rfl).trans rfl
                  replace ha := Aside0.mk ha
                  have HI189 := Aside0.mk (Q_HI189 hb_)
                  have HB := Aside0.mk Q_HB
                  refine goes_ Try.func33 (by kernel_rfl) rfl #[.pointer (some ⟨g189, 0, none⟩), .int .i64 5] (by rfl) rfl rfl (by first | (simp only [List.map_toArray, List.map_cons, List.map_nil, Act.eval, Array.getD_eq_getD_getElem?, Option.getD_some, e8]; done) | (simp only [List.map_toArray, List.map_cons, List.map_nil, Act.eval, Array.getD_eq_getD_getElem?, Option.getD_some, e8]; rfl)) ?_
                  with_reducible refine (spec_l01Cur_pick.calls g189 t186 t187 t188 5 t190 t191 t192 w _ ?side1 ?side2 A3.out).mono ?_
                  (case side1 => repeat (first | (with_reducible first | exact HI189.out | apply IsS64.alloc | apply IsS64.drewN | apply IsS64.drew | apply IsS64.set_1 | apply IsS64.set_2) | exact HI189.out))
                  (case side2 => repeat (first | (with_reducible first | exact HB.out | apply below_alloc | apply pw_below_drewN | apply below_drew1 | refine below_set ?_ (IsS64.ge HI189.out)) | exact HB.out))
                  rintro e w22 ⟨rfl, hi, hb, hk⟩
                  refine ⟨_, rfl, ?_⟩
                  have n0_ := Aside0.mk (hb)
                  have n1_ := Aside0.mk (hi)
                  clear HB
                  clear HI189
                  have HB := n0_
                  have HI189 := n1_
                  clear n0_ n1_
                  (try clear hb)
                  (try clear hb2)
                  (try clear hk)
                  (try clear hi)
                  refine hK.out _ _ ⟨v200, adz_v200, v216, adz_v216, v229, adz_v229, m9_, m20_, m30_, (by rw [ha.out]; exact putSel_upk 0 hb_ rfl rfl rfl), fun h0_ => absurd ((up_self b 1).symm.trans h0_) (by decide), (by repeat (first | (with_reducible first | exact HB.out | apply below_alloc | apply pw_below_drewN | apply below_drew1 | refine below_set ?_ (IsS64.ge HI189.out)) | exact HB.out)), fun _ _ => (by repeat (first | (with_reducible first | exact HI189.out | apply IsS64.alloc | apply IsS64.drewN | apply IsS64.drew | apply IsS64.set_1 | apply IsS64.set_2) | exact HI189.out)), fun h0_ _ => absurd ((hoff 3 (by kernel_rfl)).symm.trans h0_) (by decide), fun h0_ _ => absurd ((hoff 5 (by kernel_rfl)).symm.trans h0_) (by decide), fun h0_ => absurd ((hoff 6 (by kernel_rfl)).symm.trans h0_) (by decide), fun h0_ => absurd ((hoff 6 (by kernel_rfl)).symm.trans h0_) (by decide), fun h0_ _ => absurd ((hoff 8 (by kernel_rfl)).symm.trans h0_) (by decide), fun h0_ _ => absurd ((hoff 12 (by kernel_rfl)).symm.trans h0_) (by decide), fun h0_ _ => absurd ((hoff 14 (by kernel_rfl)).symm.trans h0_) (by decide), fun h0_ _ => absurd ((hoff 16 (by kernel_rfl)).symm.trans h0_) (by decide), fun h0_ => absurd ((hoff 17 (by kernel_rfl)).symm.trans h0_) (by decide), fun h0_ => absurd ((hoff 17 (by kernel_rfl)).symm.trans h0_) (by decide), fun h0_ _ => absurd ((hoff 19 (by kernel_rfl)).symm.trans h0_) (by decide), fun h0_ _ => absurd ((hoff 23 (by kernel_rfl)).symm.trans h0_) (by decide), fun h0_ _ => absurd ((hoff 26 (by kernel_rfl)).symm.trans h0_) (by decide), fun h0_ => absurd ((hoff 27 (by kernel_rfl)).symm.trans h0_) (by decide), fun h0_ => absurd ((hoff 27 (by kernel_rfl)).symm.trans h0_) (by decide), fun h0_ => absurd ((hoff 29 (by kernel_rfl)).symm.trans h0_) (by decide), fun h0_ => absurd ((hoff 9 (by kernel_rfl)).symm.trans h0_) (by decide), fun h0_ => absurd ((hoff 20 (by kernel_rfl)).symm.trans h0_) (by decide), fun h0_ => absurd ((hoff 30 (by kernel_rfl)).symm.trans h0_) (by decide)⟩
                refine steps_cons ?_ ?_
                · rintro b a w' ⟨v200, adz_v200, v216, adz_v216, v229, adz_v229, m9_, m20_, m30_, ha, Q_HI189, Q_HB, Q_HI189_e1, Q_HI189_e3, Q_HI189_e5, Q_HO201, Q_HA_HO201, Q_HI189_e8, Q_HI189_e12, Q_HI189_e14, Q_HI189_e16, Q_HO217, Q_HA_HO217, Q_HI189_e19, Q_HI189_e23, Q_HI189_e26, Q_HO230, Q_HA_HO230, Q_HI189_e29, Q_X9_, Q_X20_, Q_X30_⟩ hb_ hon hoff
                  refine ⟨_, rfl, fun K hK => ?_⟩
                  have e10 : a.tmps[10]? = some (.pointer (some ⟨g189, 0, none⟩)) := by rw [ha]; exact (putSel_off rfl).trans rfl
                  replace ha := Aside0.mk ha
                  have HB := Aside0.mk Q_HB
                  have HI189 := Aside0.mk (Q_HI189_e1 (hon 1 (by kernel_rfl)) hb_)
                  refine goes_ Try.func33 (by kernel_rfl) rfl #[.pointer (some ⟨g189, 0, none⟩), .int .i64 4] (by rfl) rfl rfl (by first | (simp only [List.map_toArray, List.map_cons, List.map_nil, Act.eval, Array.getD_eq_getD_getElem?, Option.getD_some, e10]; done) | (simp only [List.map_toArray, List.map_cons, List.map_nil, Act.eval, Array.getD_eq_getD_getElem?, Option.getD_some, e10]; rfl)) ?_
                  with_reducible refine (spec_l01Cur_pick.calls g189 t186 t191 t192 4 t193 t194 t195 w _ ?side1 ?side2 A4.out).mono ?_
                  (case side1 => repeat (first | (with_reducible first | exact HI189.out | apply IsS64.alloc | apply IsS64.drewN | apply IsS64.drew | apply IsS64.set_1 | apply IsS64.set_2) | exact HI189.out))
                  (case side2 => repeat (first | (with_reducible first | exact HB.out | apply below_alloc | apply pw_below_drewN | apply below_drew1 | refine below_set ?_ (IsS64.ge HI189.out)) | exact HB.out))
                  rintro e w24 ⟨rfl, hi, hb, hk⟩
                  refine ⟨_, rfl, ?_⟩
                  have n0_ := Aside0.mk (hb)
                  have n1_ := Aside0.mk (hi)
                  clear HB
                  clear HI189
                  have HB := n0_
                  have HI189 := n1_
                  clear n0_ n1_
                  (try clear hb)
                  (try clear hb2)
                  (try clear hk)
                  (try clear hi)
                  refine hK.out _ _ ⟨v200, adz_v200, v216, adz_v216, v229, adz_v229, m9_, m20_, m30_, (by rw [ha.out]; exact putSel_upk 1 hb_ rfl rfl rfl), fun h0_ => absurd ((hon 1 (by kernel_rfl)).symm.trans h0_) (by decide), (by repeat (first | (with_reducible first | exact HB.out | apply below_alloc | apply pw_below_drewN | apply below_drew1 | refine below_set ?_ (IsS64.ge HI189.out)) | exact HB.out)), fun _ h1_ => absurd ((up_self b 3).symm.trans h1_) (by decide), fun _ _ => (by repeat (first | (with_reducible first | exact HI189.out | apply IsS64.alloc | apply IsS64.drewN | apply IsS64.drew | apply IsS64.set_1 | apply IsS64.set_2) | exact HI189.out)), fun h0_ _ => absurd ((hoff 5 (by kernel_rfl)).symm.trans h0_) (by decide), fun h0_ => absurd ((hoff 6 (by kernel_rfl)).symm.trans h0_) (by decide), fun h0_ => absurd ((hoff 6 (by kernel_rfl)).symm.trans h0_) (by decide), fun h0_ _ => absurd ((hoff 8 (by kernel_rfl)).symm.trans h0_) (by decide), fun h0_ _ => absurd ((hoff 12 (by kernel_rfl)).symm.trans h0_) (by decide), fun h0_ _ => absurd ((hoff 14 (by kernel_rfl)).symm.trans h0_) (by decide), fun h0_ _ => absurd ((hoff 16 (by kernel_rfl)).symm.trans h0_) (by decide), fun h0_ => absurd ((hoff 17 (by kernel_rfl)).symm.trans h0_) (by decide), fun h0_ => absurd ((hoff 17 (by kernel_rfl)).symm.trans h0_) (by decide), fun h0_ _ => absurd ((hoff 19 (by kernel_rfl)).symm.trans h0_) (by decide), fun h0_ _ => absurd ((hoff 23 (by kernel_rfl)).symm.trans h0_) (by decide), fun h0_ _ => absurd ((hoff 26 (by kernel_rfl)).symm.trans h0_) (by decide), fun h0_ => absurd ((hoff 27 (by kernel_rfl)).symm.trans h0_) (by decide), fun h0_ => absurd ((hoff 27 (by kernel_rfl)).symm.trans h0_) (by decide), fun h0_ => absurd ((hoff 29 (by kernel_rfl)).symm.trans h0_) (by decide), fun h0_ => absurd ((hoff 9 (by kernel_rfl)).symm.trans h0_) (by decide), fun h0_ => absurd ((hoff 20 (by kernel_rfl)).symm.trans h0_) (by decide), fun h0_ => absurd ((hoff 30 (by kernel_rfl)).symm.trans h0_) (by decide)⟩
                refine steps_cons ?_ ?_
                · rintro b a w' ⟨v200, adz_v200, v216, adz_v216, v229, adz_v229, m9_, m20_, m30_, ha, Q_HI189, Q_HB, Q_HI189_e1, Q_HI189_e3, Q_HI189_e5, Q_HO201, Q_HA_HO201, Q_HI189_e8, Q_HI189_e12, Q_HI189_e14, Q_HI189_e16, Q_HO217, Q_HA_HO217, Q_HI189_e19, Q_HI189_e23, Q_HI189_e26, Q_HO230, Q_HA_HO230, Q_HI189_e29, Q_X9_, Q_X20_, Q_X30_⟩ hb_ hon hoff
                  refine ⟨_, rfl, fun K hK => ?_⟩
                  have e12 : a.tmps[12]? = some (.pointer (some ⟨g189, 0, none⟩)) := by rw [ha]; exact (putSel_off rfl).trans rfl
                  replace ha := Aside0.mk ha
                  have HB := Aside0.mk Q_HB
                  have HI189 := Aside0.mk (Q_HI189_e3 (hon 3 (by kernel_rfl)) hb_)
                  refine goes_ Try.func34 (by kernel_rfl) rfl #[.pointer (some ⟨g189, 0, none⟩)] (by rfl) rfl rfl (by first | (simp only [List.map_toArray, List.map_cons, List.map_nil, Act.eval, Array.getD_eq_getD_getElem?, Option.getD_some, e12]; done) | (simp only [List.map_toArray, List.map_cons, List.map_nil, Act.eval, Array.getD_eq_getD_getElem?, Option.getD_some, e12]; rfl)) ?_
                  with_reducible refine (spec_l01Cur_raw.calls g189 t186 t194 t195 t196 t197 t198 w _ ?side1 ?side2 A5.out).mono ?_
                  (case side1 => repeat (first | (with_reducible first | exact HI189.out | apply IsS64.alloc | apply IsS64.drewN | apply IsS64.drew | apply IsS64.set_1 | apply IsS64.set_2) | exact HI189.out))
                  (case side2 => repeat (first | (with_reducible first | exact HB.out | apply below_alloc | apply pw_below_drewN | apply below_drew1 | refine below_set ?_ (IsS64.ge HI189.out)) | exact HB.out))
                  rintro e w25 ⟨rfl, hi, hb, hk⟩
                  refine ⟨_, rfl, ?_⟩
                  have n0_ := Aside0.mk (hb)
                  have n1_ := Aside0.mk (hi)
                  clear HB
                  clear HI189
                  have HB := n0_
                  have HI189 := n1_
                  clear n0_ n1_
                  (try clear hb)
                  (try clear hb2)
                  (try clear hk)
                  (try clear hi)
                  refine hK.out _ _ ⟨v200, adz_v200, v216, adz_v216, v229, adz_v229, m9_, m20_, m30_, (by rw [ha.out]; exact putSel_upk 2 hb_ rfl rfl rfl), fun h0_ => absurd ((hon 1 (by kernel_rfl)).symm.trans h0_) (by decide), (by repeat (first | (with_reducible first | exact HB.out | apply below_alloc | apply pw_below_drewN | apply below_drew1 | refine below_set ?_ (IsS64.ge HI189.out)) | exact HB.out)), fun _ h1_ => absurd ((hon 3 (by kernel_rfl)).symm.trans h1_) (by decide), fun _ h1_ => absurd ((up_self b 5).symm.trans h1_) (by decide), fun _ _ => (by repeat (first | (with_reducible first | exact HI189.out | apply IsS64.alloc | apply IsS64.drewN | apply IsS64.drew | apply IsS64.set_1 | apply IsS64.set_2) | exact HI189.out)), fun h0_ => absurd ((hoff 6 (by kernel_rfl)).symm.trans h0_) (by decide), fun h0_ => absurd ((hoff 6 (by kernel_rfl)).symm.trans h0_) (by decide), fun h0_ _ => absurd ((hoff 8 (by kernel_rfl)).symm.trans h0_) (by decide), fun h0_ _ => absurd ((hoff 12 (by kernel_rfl)).symm.trans h0_) (by decide), fun h0_ _ => absurd ((hoff 14 (by kernel_rfl)).symm.trans h0_) (by decide), fun h0_ _ => absurd ((hoff 16 (by kernel_rfl)).symm.trans h0_) (by decide), fun h0_ => absurd ((hoff 17 (by kernel_rfl)).symm.trans h0_) (by decide), fun h0_ => absurd ((hoff 17 (by kernel_rfl)).symm.trans h0_) (by decide), fun h0_ _ => absurd ((hoff 19 (by kernel_rfl)).symm.trans h0_) (by decide), fun h0_ _ => absurd ((hoff 23 (by kernel_rfl)).symm.trans h0_) (by decide), fun h0_ _ => absurd ((hoff 26 (by kernel_rfl)).symm.trans h0_) (by decide), fun h0_ => absurd ((hoff 27 (by kernel_rfl)).symm.trans h0_) (by decide), fun h0_ => absurd ((hoff 27 (by kernel_rfl)).symm.trans h0_) (by decide), fun h0_ => absurd ((hoff 29 (by kernel_rfl)).symm.trans h0_) (by decide), fun h0_ => absurd ((hoff 9 (by kernel_rfl)).symm.trans h0_) (by decide), fun h0_ => absurd ((hoff 20 (by kernel_rfl)).symm.trans h0_) (by decide), fun h0_ => absurd ((hoff 30 (by kernel_rfl)).symm.trans h0_) (by decide)⟩
                refine steps_cons ?_ ?_
                · rintro b a w' ⟨v200, adz_v200, v216, adz_v216, v229, adz_v229, m9_, m20_, m30_, ha, Q_HI189, Q_HB, Q_HI189_e1, Q_HI189_e3, Q_HI189_e5, Q_HO201, Q_HA_HO201, Q_HI189_e8, Q_HI189_e12, Q_HI189_e14, Q_HI189_e16, Q_HO217, Q_HA_HO217, Q_HI189_e19, Q_HI189_e23, Q_HI189_e26, Q_HO230, Q_HA_HO230, Q_HI189_e29, Q_X9_, Q_X20_, Q_X30_⟩ hb_ hon hoff
                  refine ⟨_, rfl, fun K hK => ?_⟩
                  have e9 : a.tmps[9]? = some (.int .i64 t190) := by rw [ha]; exact putSel_on (e := (1, 9, .int .i64 t190)) 0 rfl rfl (hon 1 (by kernel_rfl)) rfl
                  have e11 : a.tmps[11]? = some (.int .i64 t193) := by rw [ha]; exact putSel_on (e := (3, 11, .int .i64 t193)) 1 rfl rfl (hon 3 (by kernel_rfl)) rfl
                  have e13 : a.tmps[13]? = some (.int .i64 t196) := by rw [ha]; exact putSel_on (e := (5, 13, .int .i64 t196)) 2 rfl rfl (hon 5 (by kernel_rfl)) rfl
                  replace ha := Aside0.mk ha
                  have HB := Aside0.mk Q_HB
                  refine Kd.R_lit_step (Kd.int .i64) _ 3 ?hg (N := 14) ?hd (xs := ([t190, t193, t196] : List Int)) (inner := [.int .i64 t190, .int .i64 t193, .int .i64 t196]) (ok := fun _ => True) (okp := fun _ => True) ?hr ?hp (fun _ hk => hk) trivial (Below.refl _ _) (Nat.le_refl _) (by simp) ?_; (case hd => rfl); (case hg => rfl); (case hr => first | (go_simp; done) | (go_simp; rfl)); (case hp => exact (Reps.one (show Kd.M (Kd.int .i64) _ _ _ t190 [.int .i64 t190] from rfl) (Reps.one (show Kd.M (Kd.int .i64) _ _ _ t193 [.int .i64 t193] from rfl) (Reps.one (show Kd.M (Kd.int .i64) _ _ _ t196 [.int .i64 t196] from rfl) (Reps.none _ _)))))
                  intro v200 w26 ho27 hb hg_ hnew_
                  clear hg_ hnew_
                  (first | rw [← Ny199.out] at ho27 | (simp only [Int.reduceToNat] at ho27; rw [← Ny199.out] at ho27))
                  have n0_ := Aside0.mk (Kd.R_lower ho27 (below_size (by repeat (first | (with_reducible first | exact HB.out | apply below_alloc | apply pw_below_drewN | apply below_drew1) | exact HB.out))))
                  have n2_ := Aside0.mk (below_step (by repeat (first | (with_reducible first | exact HB.out | apply below_alloc | apply pw_below_drewN | apply below_drew1) | exact HB.out)) hb)
                  have z_HI189_e5 := fun (h0_ : b 5 = true) (h1_ : b 8 = false) => (show IsS64 w w26 g189 t186 t197 t198 from by first | exact (IsS64.below (by repeat (first | (with_reducible first | exact (Q_HI189_e5 h0_ h1_) | apply IsS64.alloc | apply IsS64.drewN | apply IsS64.drew | apply IsS64.set_1 | apply IsS64.set_2) | exact (Q_HI189_e5 h0_ h1_))) hb))
                  have z_HI189_e8 := fun (h0_ : b 8 = true) (h1_ : b 12 = false) => (show IsS64 w w26 g189 t186 t203 t204 from by first | exact (IsS64.below (by repeat (first | (with_reducible first | exact (Q_HI189_e8 h0_ h1_) | apply IsS64.alloc | apply IsS64.drewN | apply IsS64.drew | apply IsS64.set_1 | apply IsS64.set_2) | exact (Q_HI189_e8 h0_ h1_))) hb))
                  have z_HI189_e12 := fun (h0_ : b 12 = true) (h1_ : b 14 = false) => (show IsS64 w w26 g189 t186 t207 t208 from by first | exact (IsS64.below (by repeat (first | (with_reducible first | exact (Q_HI189_e12 h0_ h1_) | apply IsS64.alloc | apply IsS64.drewN | apply IsS64.drew | apply IsS64.set_1 | apply IsS64.set_2) | exact (Q_HI189_e12 h0_ h1_))) hb))
                  have z_HI189_e14 := fun (h0_ : b 14 = true) (h1_ : b 16 = false) => (show IsS64 w w26 g189 t186 t210 t211 from by first | exact (IsS64.below (by repeat (first | (with_reducible first | exact (Q_HI189_e14 h0_ h1_) | apply IsS64.alloc | apply IsS64.drewN | apply IsS64.drew | apply IsS64.set_1 | apply IsS64.set_2) | exact (Q_HI189_e14 h0_ h1_))) hb))
                  have z_HI189_e16 := fun (h0_ : b 16 = true) (h1_ : b 19 = false) => (show IsS64 w w26 g189 t186 t213 t214 from by first | exact (IsS64.below (by repeat (first | (with_reducible first | exact (Q_HI189_e16 h0_ h1_) | apply IsS64.alloc | apply IsS64.drewN | apply IsS64.drew | apply IsS64.set_1 | apply IsS64.set_2) | exact (Q_HI189_e16 h0_ h1_))) hb))
                  have z_HO217 := fun (h0_ : b 17 = true) => (show Kd.R (Kd.int .i64) 3 w26 w.heap.size (fun _ => True) v216 y215 from by first | exact (Kd.R_elder' (by (with_reducible repeat (first | apply Kd.R_alloc | apply Kd.R_drewN | apply Kd.R_drew)); exact (Q_HO217 h0_)) (Kd.R_base ho27) hb) | exact Kd.R_mono (Kd.R_elder' (by (with_reducible repeat (first | apply Kd.R_alloc | apply Kd.R_drewN | apply Kd.R_drew)); exact (Q_HO217 h0_)) (Kd.R_base ho27) hb) (fun _ h_ => by first | trivial | exact h_ | exact h_.1))
                  have z_HI189_e19 := fun (h0_ : b 19 = true) (h1_ : b 23 = false) => (show IsS64 w w26 g189 t186 t219 t220 from by first | exact (IsS64.below (by repeat (first | (with_reducible first | exact (Q_HI189_e19 h0_ h1_) | apply IsS64.alloc | apply IsS64.drewN | apply IsS64.drew | apply IsS64.set_1 | apply IsS64.set_2) | exact (Q_HI189_e19 h0_ h1_))) hb))
                  have z_HI189_e23 := fun (h0_ : b 23 = true) (h1_ : b 26 = false) => (show IsS64 w w26 g189 t186 t223 t224 from by first | exact (IsS64.below (by repeat (first | (with_reducible first | exact (Q_HI189_e23 h0_ h1_) | apply IsS64.alloc | apply IsS64.drewN | apply IsS64.drew | apply IsS64.set_1 | apply IsS64.set_2) | exact (Q_HI189_e23 h0_ h1_))) hb))
                  have z_HI189_e26 := fun (h0_ : b 26 = true) (h1_ : b 29 = false) => (show IsS64 w w26 g189 t186 t226 t227 from by first | exact (IsS64.below (by repeat (first | (with_reducible first | exact (Q_HI189_e26 h0_ h1_) | apply IsS64.alloc | apply IsS64.drewN | apply IsS64.drew | apply IsS64.set_1 | apply IsS64.set_2) | exact (Q_HI189_e26 h0_ h1_))) hb))
                  have z_HO230 := fun (h0_ : b 27 = true) => (show Kd.R (Kd.int .i64) 3 w26 w.heap.size (fun _ => True) v229 y228 from by first | exact (Kd.R_elder' (by (with_reducible repeat (first | apply Kd.R_alloc | apply Kd.R_drewN | apply Kd.R_drew)); exact (Q_HO230 h0_)) (Kd.R_base ho27) hb) | exact Kd.R_mono (Kd.R_elder' (by (with_reducible repeat (first | apply Kd.R_alloc | apply Kd.R_drewN | apply Kd.R_drew)); exact (Q_HO230 h0_)) (Kd.R_base ho27) hb) (fun _ h_ => by first | trivial | exact h_ | exact h_.1))
                  have z_HI189_e29 := fun (h0_ : b 29 = true) => (show IsS64 w w26 g189 t186 t232 t233 from by first | exact (IsS64.below (by repeat (first | (with_reducible first | exact (Q_HI189_e29 h0_) | apply IsS64.alloc | apply IsS64.drewN | apply IsS64.drew | apply IsS64.set_1 | apply IsS64.set_2) | exact (Q_HI189_e29 h0_))) hb))
                  clear HB
                  have HO201 := n0_
                  have HB := n2_
                  clear n0_ n2_
                  clear hb ho27
                  obtain ⟨Ao28, co28, eo28⟩ := Kd.R_slice HO201.out
                  subst eo28
                  obtain ⟨ado28, fo28, _⟩ := Kd.at_int (Kd.R_reads' HO201.out).2.2 0 (by decide) (by rw [Ny199.out]; simp)
                  cases fo28
                  refine hK.out _ _ ⟨.slice (some ado28) y199.length co28, ado28, v216, adz_v216, v229, adz_v229, m9_, m20_, m30_, (by rw [ha.out]; exact putSel_upk 3 hb_ rfl rfl rfl), fun h0_ => absurd ((hon 1 (by kernel_rfl)).symm.trans h0_) (by decide), (by repeat (first | (with_reducible first | exact HB.out | apply below_alloc | apply pw_below_drewN | apply below_drew1) | exact HB.out)), fun _ h1_ => absurd ((hon 3 (by kernel_rfl)).symm.trans h1_) (by decide), fun _ h1_ => absurd ((hon 5 (by kernel_rfl)).symm.trans h1_) (by decide), z_HI189_e5, fun _ => (by (with_reducible repeat (first | apply Kd.R_alloc | apply Kd.R_drewN | apply Kd.R_drew)); exact HO201.out), fun _ => ⟨_, rfl⟩, z_HI189_e8, z_HI189_e12, z_HI189_e14, z_HI189_e16, z_HO217, Q_HA_HO217, z_HI189_e19, z_HI189_e23, z_HI189_e26, z_HO230, Q_HA_HO230, z_HI189_e29, fun h0_ => absurd ((hoff 9 (by kernel_rfl)).symm.trans h0_) (by decide), Q_X20_, Q_X30_⟩
                refine steps_cons ?_ ?_
                · rintro b a w' ⟨v200, adz_v200, v216, adz_v216, v229, adz_v229, m9_, m20_, m30_, ha, Q_HI189, Q_HB, Q_HI189_e1, Q_HI189_e3, Q_HI189_e5, Q_HO201, Q_HA_HO201, Q_HI189_e8, Q_HI189_e12, Q_HI189_e14, Q_HI189_e16, Q_HO217, Q_HA_HO217, Q_HI189_e19, Q_HI189_e23, Q_HI189_e26, Q_HO230, Q_HA_HO230, Q_HI189_e29, Q_X9_, Q_X20_, Q_X30_⟩ hb_ hon hoff
                  refine ⟨_, rfl, fun K hK => ?_⟩
                  have e15 : a.tmps[15]? = some (.pointer (some ⟨g189, 0, none⟩)) := by rw [ha]; exact (putSel_off rfl).trans rfl
                  replace ha := Aside0.mk ha
                  have HB := Aside0.mk Q_HB
                  have HI189 := Aside0.mk (Q_HI189_e5 (hon 5 (by kernel_rfl)) hb_)
                  refine goes_ Try.func33 (by kernel_rfl) rfl #[.pointer (some ⟨g189, 0, none⟩), .int .i64 3] (by rfl) rfl rfl (by first | (simp only [List.map_toArray, List.map_cons, List.map_nil, Act.eval, Array.getD_eq_getD_getElem?, Option.getD_some, e15]; done) | (simp only [List.map_toArray, List.map_cons, List.map_nil, Act.eval, Array.getD_eq_getD_getElem?, Option.getD_some, e15]; rfl)) ?_
                  with_reducible refine (spec_l01Cur_pick.calls g189 t186 t197 t198 3 t202 t203 t204 w _ ?side1 ?side2 A6.out).mono ?_
                  (case side1 => repeat (first | (with_reducible first | exact HI189.out | apply IsS64.alloc | apply IsS64.drewN | apply IsS64.drew | apply IsS64.set_1 | apply IsS64.set_2) | exact HI189.out))
                  (case side2 => repeat (first | (with_reducible first | exact HB.out | apply below_alloc | apply pw_below_drewN | apply below_drew1 | refine below_set ?_ (IsS64.ge HI189.out)) | exact HB.out))
                  rintro e w26 ⟨rfl, hi, hb, hk⟩
                  refine ⟨_, rfl, ?_⟩
                  have n0_ := Aside0.mk (hb)
                  have n1_ := Aside0.mk (hi)
                  have z_HO201 := fun (h0_ : b 6 = true) => (show Kd.R (Kd.int .i64) 3 w26 w.heap.size (fun _ => True) v200 y199 from by first | exact (Kd.R_mono (Kd.R_keep (IsS64.apart (show IsS64 w _ g189 t186 t197 t198 from by repeat (first | (with_reducible first | exact HI189.out | apply IsS64.alloc | apply IsS64.drewN | apply IsS64.drew | apply IsS64.set_1 | apply IsS64.set_2) | exact HI189.out)) (by (with_reducible repeat (first | apply Kd.R_alloc | apply Kd.R_drewN | apply Kd.R_drew)); exact (Q_HO201 h0_)) (by decide)) hk (fun _ h => h.2)) (fun _ h => h.1)) | exact Kd.R_mono (Kd.R_mono (Kd.R_keep (IsS64.apart (show IsS64 w _ g189 t186 t197 t198 from by repeat (first | (with_reducible first | exact HI189.out | apply IsS64.alloc | apply IsS64.drewN | apply IsS64.drew | apply IsS64.set_1 | apply IsS64.set_2) | exact HI189.out)) (by (with_reducible repeat (first | apply Kd.R_alloc | apply Kd.R_drewN | apply Kd.R_drew)); exact (Q_HO201 h0_)) (by decide)) hk (fun _ h => h.2)) (fun _ h => h.1)) (fun _ h_ => by first | trivial | exact h_ | exact h_.1))
                  clear HB
                  clear HI189
                  have HB := n0_
                  have HI189 := n1_
                  clear n0_ n1_
                  (try clear hb)
                  (try clear hb2)
                  (try clear hk)
                  (try clear hi)
                  refine hK.out _ _ ⟨v200, adz_v200, v216, adz_v216, v229, adz_v229, m9_, m20_, m30_, (by rw [ha.out]; exact putSel_upk 4 hb_ rfl rfl rfl), fun h0_ => absurd ((hon 1 (by kernel_rfl)).symm.trans h0_) (by decide), (by repeat (first | (with_reducible first | exact HB.out | apply below_alloc | apply pw_below_drewN | apply below_drew1 | refine below_set ?_ (IsS64.ge HI189.out)) | exact HB.out)), fun _ h1_ => absurd ((hon 3 (by kernel_rfl)).symm.trans h1_) (by decide), fun _ h1_ => absurd ((hon 5 (by kernel_rfl)).symm.trans h1_) (by decide), fun _ h1_ => absurd ((up_self b 8).symm.trans h1_) (by decide), z_HO201, Q_HA_HO201, fun _ _ => (by repeat (first | (with_reducible first | exact HI189.out | apply IsS64.alloc | apply IsS64.drewN | apply IsS64.drew | apply IsS64.set_1 | apply IsS64.set_2) | exact HI189.out)), fun h0_ _ => absurd ((hoff 12 (by kernel_rfl)).symm.trans h0_) (by decide), fun h0_ _ => absurd ((hoff 14 (by kernel_rfl)).symm.trans h0_) (by decide), fun h0_ _ => absurd ((hoff 16 (by kernel_rfl)).symm.trans h0_) (by decide), fun h0_ => absurd ((hoff 17 (by kernel_rfl)).symm.trans h0_) (by decide), fun h0_ => absurd ((hoff 17 (by kernel_rfl)).symm.trans h0_) (by decide), fun h0_ _ => absurd ((hoff 19 (by kernel_rfl)).symm.trans h0_) (by decide), fun h0_ _ => absurd ((hoff 23 (by kernel_rfl)).symm.trans h0_) (by decide), fun h0_ _ => absurd ((hoff 26 (by kernel_rfl)).symm.trans h0_) (by decide), fun h0_ => absurd ((hoff 27 (by kernel_rfl)).symm.trans h0_) (by decide), fun h0_ => absurd ((hoff 27 (by kernel_rfl)).symm.trans h0_) (by decide), fun h0_ => absurd ((hoff 29 (by kernel_rfl)).symm.trans h0_) (by decide), fun h0_ => absurd ((hoff 9 (by kernel_rfl)).symm.trans h0_) (by decide), fun h0_ => absurd ((hoff 20 (by kernel_rfl)).symm.trans h0_) (by decide), fun h0_ => absurd ((hoff 30 (by kernel_rfl)).symm.trans h0_) (by decide)⟩
                refine steps_cons ?_ ?_
                · rintro b a w' ⟨v200, adz_v200, v216, adz_v216, v229, adz_v229, m9_, m20_, m30_, ha, Q_HI189, Q_HB, Q_HI189_e1, Q_HI189_e3, Q_HI189_e5, Q_HO201, Q_HA_HO201, Q_HI189_e8, Q_HI189_e12, Q_HI189_e14, Q_HI189_e16, Q_HO217, Q_HA_HO217, Q_HI189_e19, Q_HI189_e23, Q_HI189_e26, Q_HO230, Q_HA_HO230, Q_HI189_e29, Q_X9_, Q_X20_, Q_X30_⟩ hb_ hon hoff
                  refine ⟨_, rfl, fun K hK => ?_⟩
                  have e14 : a.tmps[14]? = some (v200) := by rw [ha]; exact putSel_on (e := (6, 14, v200)) 3 rfl rfl (hon 6 (by kernel_rfl)) rfl
                  have e16 : a.tmps[16]? = some (.int .i64 t202) := by rw [ha]; exact putSel_on (e := (8, 16, .int .i64 t202)) 4 rfl rfl (hon 8 (by kernel_rfl)) rfl
                  replace ha := Aside0.mk ha
                  have HB := Aside0.mk Q_HB
                  have HO201 := Aside0.mk (Q_HO201 (hon 6 (by kernel_rfl)))
                  have HA_HO201 := Aside0.mk (Q_HA_HO201 (hon 6 (by kernel_rfl)))
                  obtain ⟨c_, hv_⟩ := HA_HO201.out
                  rw [hv_] at e14
                  refine value_ (w1 := w') (v := .pointer (some (adz_v200.add (t202).toNat))) (by rfl) rfl ?_ ?_
                  · go_simp
                    (try simp only [i64_w])
                    try rfl
                  refine hK.out _ _ ⟨v200, adz_v200, v216, adz_v216, v229, adz_v229, (.pointer (some (adz_v200.add (t202).toNat))), m20_, m30_, (by rw [ha.out]; exact putSel_upk 5 hb_ rfl rfl rfl), fun h0_ => absurd ((hon 1 (by kernel_rfl)).symm.trans h0_) (by decide), Q_HB, fun _ h1_ => absurd ((hon 3 (by kernel_rfl)).symm.trans h1_) (by decide), fun _ h1_ => absurd ((hon 5 (by kernel_rfl)).symm.trans h1_) (by decide), fun _ h1_ => absurd ((hon 8 (by kernel_rfl)).symm.trans h1_) (by decide), Q_HO201, Q_HA_HO201, Q_HI189_e8, Q_HI189_e12, Q_HI189_e14, Q_HI189_e16, Q_HO217, Q_HA_HO217, Q_HI189_e19, Q_HI189_e23, Q_HI189_e26, Q_HO230, Q_HA_HO230, Q_HI189_e29, fun _ => rfl, Q_X20_, Q_X30_⟩
                refine steps_cons ?_ ?_
                · rintro b a w' ⟨v200, adz_v200, v216, adz_v216, v229, adz_v229, m9_, m20_, m30_, ha, Q_HI189, Q_HB, Q_HI189_e1, Q_HI189_e3, Q_HI189_e5, Q_HO201, Q_HA_HO201, Q_HI189_e8, Q_HI189_e12, Q_HI189_e14, Q_HI189_e16, Q_HO217, Q_HA_HO217, Q_HI189_e19, Q_HI189_e23, Q_HI189_e26, Q_HO230, Q_HA_HO230, Q_HI189_e29, Q_X9_, Q_X20_, Q_X30_⟩ hb_ hon hoff
                  refine ⟨_, rfl, fun K hK => ?_⟩
                  have e17 : a.tmps[17]? = some (m9_) := by rw [ha]; exact putSel_on (e := (9, 17, m9_)) 5 rfl rfl (hon 9 (by kernel_rfl)) rfl
                  rw [Q_X9_ (hon 9 (by kernel_rfl))] at e17
                  replace ha := Aside0.mk ha
                  have HB := Aside0.mk Q_HB
                  have HO201 := Aside0.mk (Q_HO201 (hon 6 (by kernel_rfl)))
                  have HA_HO201 := Aside0.mk (Q_HA_HO201 (hon 6 (by kernel_rfl)))
                  obtain ⟨c_, hv_⟩ := HA_HO201.out
                  have hF_ := HO201.out
                  rw [hv_] at hF_
                  obtain ⟨ad_, ea_, hx_⟩ := Kd.at_int (Kd.R_reads' hF_).2.2 t202 (of_eq_true pi205) (of_eq_true qi205)
                  cases ea_
                  refine value_ (w1 := w') (v := .int .i64 (rd y199 t202)) (by rfl) rfl ?_ ?_
                  · go_simp
                    (try simp only [i64_w])
                    try rfl
                  refine hK.out _ _ ⟨v200, adz_v200, v216, adz_v216, v229, adz_v229, m9_, m20_, m30_, (by rw [ha.out]; exact putSel_upk 6 hb_ rfl rfl rfl), fun h0_ => absurd ((hon 1 (by kernel_rfl)).symm.trans h0_) (by decide), Q_HB, fun _ h1_ => absurd ((hon 3 (by kernel_rfl)).symm.trans h1_) (by decide), fun _ h1_ => absurd ((hon 5 (by kernel_rfl)).symm.trans h1_) (by decide), fun _ h1_ => absurd ((hon 8 (by kernel_rfl)).symm.trans h1_) (by decide), Q_HO201, Q_HA_HO201, Q_HI189_e8, Q_HI189_e12, Q_HI189_e14, Q_HI189_e16, Q_HO217, Q_HA_HO217, Q_HI189_e19, Q_HI189_e23, Q_HI189_e26, Q_HO230, Q_HA_HO230, Q_HI189_e29, Q_X9_, Q_X20_, Q_X30_⟩
                refine steps_cons ?_ ?_
                · rintro b a w' ⟨v200, adz_v200, v216, adz_v216, v229, adz_v229, m9_, m20_, m30_, ha, Q_HI189, Q_HB, Q_HI189_e1, Q_HI189_e3, Q_HI189_e5, Q_HO201, Q_HA_HO201, Q_HI189_e8, Q_HI189_e12, Q_HI189_e14, Q_HI189_e16, Q_HO217, Q_HA_HO217, Q_HI189_e19, Q_HI189_e23, Q_HI189_e26, Q_HO230, Q_HA_HO230, Q_HI189_e29, Q_X9_, Q_X20_, Q_X30_⟩ hb_ hon hoff
                  refine ⟨_, rfl, fun K hK => ?_⟩
                  have e19 : a.tmps[19]? = some (.pointer (some ⟨g189, 0, none⟩)) := by rw [ha]; exact (putSel_off rfl).trans rfl
                  replace ha := Aside0.mk ha
                  have HB := Aside0.mk Q_HB
                  have HI189 := Aside0.mk (Q_HI189_e8 (hon 8 (by kernel_rfl)) hb_)
                  refine goes_ Try.func33 (by kernel_rfl) rfl #[.pointer (some ⟨g189, 0, none⟩), .int .i64 6] (by rfl) rfl rfl (by first | (simp only [List.map_toArray, List.map_cons, List.map_nil, Act.eval, Array.getD_eq_getD_getElem?, Option.getD_some, e19]; done) | (simp only [List.map_toArray, List.map_cons, List.map_nil, Act.eval, Array.getD_eq_getD_getElem?, Option.getD_some, e19]; rfl)) ?_
                  with_reducible refine (spec_l01Cur_pick.calls g189 t186 t203 t204 6 t206 t207 t208 w _ ?side1 ?side2 A9.out).mono ?_
                  (case side1 => repeat (first | (with_reducible first | exact HI189.out | apply IsS64.alloc | apply IsS64.drewN | apply IsS64.drew | apply IsS64.set_1 | apply IsS64.set_2) | exact HI189.out))
                  (case side2 => repeat (first | (with_reducible first | exact HB.out | apply below_alloc | apply pw_below_drewN | apply below_drew1 | refine below_set ?_ (IsS64.ge HI189.out)) | exact HB.out))
                  rintro e w27 ⟨rfl, hi, hb, hk⟩
                  refine ⟨_, rfl, ?_⟩
                  have n0_ := Aside0.mk (hb)
                  have n1_ := Aside0.mk (hi)
                  have z_HO201 := fun (h0_ : b 6 = true) => (show Kd.R (Kd.int .i64) 3 w27 w.heap.size (fun _ => True) v200 y199 from by first | exact (Kd.R_mono (Kd.R_keep (IsS64.apart (show IsS64 w _ g189 t186 t203 t204 from by repeat (first | (with_reducible first | exact HI189.out | apply IsS64.alloc | apply IsS64.drewN | apply IsS64.drew | apply IsS64.set_1 | apply IsS64.set_2) | exact HI189.out)) (by (with_reducible repeat (first | apply Kd.R_alloc | apply Kd.R_drewN | apply Kd.R_drew)); exact (Q_HO201 h0_)) (by decide)) hk (fun _ h => h.2)) (fun _ h => h.1)) | exact Kd.R_mono (Kd.R_mono (Kd.R_keep (IsS64.apart (show IsS64 w _ g189 t186 t203 t204 from by repeat (first | (with_reducible first | exact HI189.out | apply IsS64.alloc | apply IsS64.drewN | apply IsS64.drew | apply IsS64.set_1 | apply IsS64.set_2) | exact HI189.out)) (by (with_reducible repeat (first | apply Kd.R_alloc | apply Kd.R_drewN | apply Kd.R_drew)); exact (Q_HO201 h0_)) (by decide)) hk (fun _ h => h.2)) (fun _ h => h.1)) (fun _ h_ => by first | trivial | exact h_ | exact h_.1))
                  clear HB
                  clear HI189
                  have HB := n0_
                  have HI189 := n1_
                  clear n0_ n1_
                  (try clear hb)
                  (try clear hb2)
                  (try clear hk)
                  (try clear hi)
                  refine hK.out _ _ ⟨v200, adz_v200, v216, adz_v216, v229, adz_v229, m9_, m20_, m30_, (by rw [ha.out]; exact putSel_upk 7 hb_ rfl rfl rfl), fun h0_ => absurd ((hon 1 (by kernel_rfl)).symm.trans h0_) (by decide), (by repeat (first | (with_reducible first | exact HB.out | apply below_alloc | apply pw_below_drewN | apply below_drew1 | refine below_set ?_ (IsS64.ge HI189.out)) | exact HB.out)), fun _ h1_ => absurd ((hon 3 (by kernel_rfl)).symm.trans h1_) (by decide), fun _ h1_ => absurd ((hon 5 (by kernel_rfl)).symm.trans h1_) (by decide), fun _ h1_ => absurd ((hon 8 (by kernel_rfl)).symm.trans h1_) (by decide), z_HO201, Q_HA_HO201, fun _ h1_ => absurd ((up_self b 12).symm.trans h1_) (by decide), fun _ _ => (by repeat (first | (with_reducible first | exact HI189.out | apply IsS64.alloc | apply IsS64.drewN | apply IsS64.drew | apply IsS64.set_1 | apply IsS64.set_2) | exact HI189.out)), fun h0_ _ => absurd ((hoff 14 (by kernel_rfl)).symm.trans h0_) (by decide), fun h0_ _ => absurd ((hoff 16 (by kernel_rfl)).symm.trans h0_) (by decide), fun h0_ => absurd ((hoff 17 (by kernel_rfl)).symm.trans h0_) (by decide), fun h0_ => absurd ((hoff 17 (by kernel_rfl)).symm.trans h0_) (by decide), fun h0_ _ => absurd ((hoff 19 (by kernel_rfl)).symm.trans h0_) (by decide), fun h0_ _ => absurd ((hoff 23 (by kernel_rfl)).symm.trans h0_) (by decide), fun h0_ _ => absurd ((hoff 26 (by kernel_rfl)).symm.trans h0_) (by decide), fun h0_ => absurd ((hoff 27 (by kernel_rfl)).symm.trans h0_) (by decide), fun h0_ => absurd ((hoff 27 (by kernel_rfl)).symm.trans h0_) (by decide), fun h0_ => absurd ((hoff 29 (by kernel_rfl)).symm.trans h0_) (by decide), Q_X9_, fun h0_ => absurd ((hoff 20 (by kernel_rfl)).symm.trans h0_) (by decide), fun h0_ => absurd ((hoff 30 (by kernel_rfl)).symm.trans h0_) (by decide)⟩
                refine steps_cons ?_ ?_
                · rintro b a w' ⟨v200, adz_v200, v216, adz_v216, v229, adz_v229, m9_, m20_, m30_, ha, Q_HI189, Q_HB, Q_HI189_e1, Q_HI189_e3, Q_HI189_e5, Q_HO201, Q_HA_HO201, Q_HI189_e8, Q_HI189_e12, Q_HI189_e14, Q_HI189_e16, Q_HO217, Q_HA_HO217, Q_HI189_e19, Q_HI189_e23, Q_HI189_e26, Q_HO230, Q_HA_HO230, Q_HI189_e29, Q_X9_, Q_X20_, Q_X30_⟩ hb_ hon hoff
                  refine ⟨_, rfl, fun K hK => ?_⟩
                  have e21 : a.tmps[21]? = some (.pointer (some ⟨g189, 0, none⟩)) := by rw [ha]; exact (putSel_off rfl).trans rfl
                  replace ha := Aside0.mk ha
                  have HB := Aside0.mk Q_HB
                  have HI189 := Aside0.mk (Q_HI189_e12 (hon 12 (by kernel_rfl)) hb_)
                  refine goes_ Try.func33 (by kernel_rfl) rfl #[.pointer (some ⟨g189, 0, none⟩), .int .i64 5] (by rfl) rfl rfl (by first | (simp only [List.map_toArray, List.map_cons, List.map_nil, Act.eval, Array.getD_eq_getD_getElem?, Option.getD_some, e21]; done) | (simp only [List.map_toArray, List.map_cons, List.map_nil, Act.eval, Array.getD_eq_getD_getElem?, Option.getD_some, e21]; rfl)) ?_
                  with_reducible refine (spec_l01Cur_pick.calls g189 t186 t207 t208 5 t209 t210 t211 w _ ?side1 ?side2 A10.out).mono ?_
                  (case side1 => repeat (first | (with_reducible first | exact HI189.out | apply IsS64.alloc | apply IsS64.drewN | apply IsS64.drew | apply IsS64.set_1 | apply IsS64.set_2) | exact HI189.out))
                  (case side2 => repeat (first | (with_reducible first | exact HB.out | apply below_alloc | apply pw_below_drewN | apply below_drew1 | refine below_set ?_ (IsS64.ge HI189.out)) | exact HB.out))
                  rintro e w28 ⟨rfl, hi, hb, hk⟩
                  refine ⟨_, rfl, ?_⟩
                  have n0_ := Aside0.mk (hb)
                  have n1_ := Aside0.mk (hi)
                  have z_HO201 := fun (h0_ : b 6 = true) => (show Kd.R (Kd.int .i64) 3 w28 w.heap.size (fun _ => True) v200 y199 from by first | exact (Kd.R_mono (Kd.R_keep (IsS64.apart (show IsS64 w _ g189 t186 t207 t208 from by repeat (first | (with_reducible first | exact HI189.out | apply IsS64.alloc | apply IsS64.drewN | apply IsS64.drew | apply IsS64.set_1 | apply IsS64.set_2) | exact HI189.out)) (by (with_reducible repeat (first | apply Kd.R_alloc | apply Kd.R_drewN | apply Kd.R_drew)); exact (Q_HO201 h0_)) (by decide)) hk (fun _ h => h.2)) (fun _ h => h.1)) | exact Kd.R_mono (Kd.R_mono (Kd.R_keep (IsS64.apart (show IsS64 w _ g189 t186 t207 t208 from by repeat (first | (with_reducible first | exact HI189.out | apply IsS64.alloc | apply IsS64.drewN | apply IsS64.drew | apply IsS64.set_1 | apply IsS64.set_2) | exact HI189.out)) (by (with_reducible repeat (first | apply Kd.R_alloc | apply Kd.R_drewN | apply Kd.R_drew)); exact (Q_HO201 h0_)) (by decide)) hk (fun _ h => h.2)) (fun _ h => h.1)) (fun _ h_ => by first | trivial | exact h_ | exact h_.1))
                  clear HB
                  clear HI189
                  have HB := n0_
                  have HI189 := n1_
                  clear n0_ n1_
                  (try clear hb)
                  (try clear hb2)
                  (try clear hk)
                  (try clear hi)
                  refine hK.out _ _ ⟨v200, adz_v200, v216, adz_v216, v229, adz_v229, m9_, m20_, m30_, (by rw [ha.out]; exact putSel_upk 8 hb_ rfl rfl rfl), fun h0_ => absurd ((hon 1 (by kernel_rfl)).symm.trans h0_) (by decide), (by repeat (first | (with_reducible first | exact HB.out | apply below_alloc | apply pw_below_drewN | apply below_drew1 | refine below_set ?_ (IsS64.ge HI189.out)) | exact HB.out)), fun _ h1_ => absurd ((hon 3 (by kernel_rfl)).symm.trans h1_) (by decide), fun _ h1_ => absurd ((hon 5 (by kernel_rfl)).symm.trans h1_) (by decide), fun _ h1_ => absurd ((hon 8 (by kernel_rfl)).symm.trans h1_) (by decide), z_HO201, Q_HA_HO201, fun _ h1_ => absurd ((hon 12 (by kernel_rfl)).symm.trans h1_) (by decide), fun _ h1_ => absurd ((up_self b 14).symm.trans h1_) (by decide), fun _ _ => (by repeat (first | (with_reducible first | exact HI189.out | apply IsS64.alloc | apply IsS64.drewN | apply IsS64.drew | apply IsS64.set_1 | apply IsS64.set_2) | exact HI189.out)), fun h0_ _ => absurd ((hoff 16 (by kernel_rfl)).symm.trans h0_) (by decide), fun h0_ => absurd ((hoff 17 (by kernel_rfl)).symm.trans h0_) (by decide), fun h0_ => absurd ((hoff 17 (by kernel_rfl)).symm.trans h0_) (by decide), fun h0_ _ => absurd ((hoff 19 (by kernel_rfl)).symm.trans h0_) (by decide), fun h0_ _ => absurd ((hoff 23 (by kernel_rfl)).symm.trans h0_) (by decide), fun h0_ _ => absurd ((hoff 26 (by kernel_rfl)).symm.trans h0_) (by decide), fun h0_ => absurd ((hoff 27 (by kernel_rfl)).symm.trans h0_) (by decide), fun h0_ => absurd ((hoff 27 (by kernel_rfl)).symm.trans h0_) (by decide), fun h0_ => absurd ((hoff 29 (by kernel_rfl)).symm.trans h0_) (by decide), Q_X9_, fun h0_ => absurd ((hoff 20 (by kernel_rfl)).symm.trans h0_) (by decide), fun h0_ => absurd ((hoff 30 (by kernel_rfl)).symm.trans h0_) (by decide)⟩
                refine steps_cons ?_ ?_
                · rintro b a w' ⟨v200, adz_v200, v216, adz_v216, v229, adz_v229, m9_, m20_, m30_, ha, Q_HI189, Q_HB, Q_HI189_e1, Q_HI189_e3, Q_HI189_e5, Q_HO201, Q_HA_HO201, Q_HI189_e8, Q_HI189_e12, Q_HI189_e14, Q_HI189_e16, Q_HO217, Q_HA_HO217, Q_HI189_e19, Q_HI189_e23, Q_HI189_e26, Q_HO230, Q_HA_HO230, Q_HI189_e29, Q_X9_, Q_X20_, Q_X30_⟩ hb_ hon hoff
                  refine ⟨_, rfl, fun K hK => ?_⟩
                  have e23 : a.tmps[23]? = some (.pointer (some ⟨g189, 0, none⟩)) := by rw [ha]; exact (putSel_off rfl).trans rfl
                  replace ha := Aside0.mk ha
                  have HB := Aside0.mk Q_HB
                  have HI189 := Aside0.mk (Q_HI189_e14 (hon 14 (by kernel_rfl)) hb_)
                  refine goes_ Try.func34 (by kernel_rfl) rfl #[.pointer (some ⟨g189, 0, none⟩)] (by rfl) rfl rfl (by first | (simp only [List.map_toArray, List.map_cons, List.map_nil, Act.eval, Array.getD_eq_getD_getElem?, Option.getD_some, e23]; done) | (simp only [List.map_toArray, List.map_cons, List.map_nil, Act.eval, Array.getD_eq_getD_getElem?, Option.getD_some, e23]; rfl)) ?_
                  with_reducible refine (spec_l01Cur_raw.calls g189 t186 t210 t211 t212 t213 t214 w _ ?side1 ?side2 A11.out).mono ?_
                  (case side1 => repeat (first | (with_reducible first | exact HI189.out | apply IsS64.alloc | apply IsS64.drewN | apply IsS64.drew | apply IsS64.set_1 | apply IsS64.set_2) | exact HI189.out))
                  (case side2 => repeat (first | (with_reducible first | exact HB.out | apply below_alloc | apply pw_below_drewN | apply below_drew1 | refine below_set ?_ (IsS64.ge HI189.out)) | exact HB.out))
                  rintro e w29 ⟨rfl, hi, hb, hk⟩
                  refine ⟨_, rfl, ?_⟩
                  have n0_ := Aside0.mk (hb)
                  have n1_ := Aside0.mk (hi)
                  have z_HO201 := fun (h0_ : b 6 = true) => (show Kd.R (Kd.int .i64) 3 w29 w.heap.size (fun _ => True) v200 y199 from by first | exact (Kd.R_mono (Kd.R_keep (IsS64.apart (show IsS64 w _ g189 t186 t210 t211 from by repeat (first | (with_reducible first | exact HI189.out | apply IsS64.alloc | apply IsS64.drewN | apply IsS64.drew | apply IsS64.set_1 | apply IsS64.set_2) | exact HI189.out)) (by (with_reducible repeat (first | apply Kd.R_alloc | apply Kd.R_drewN | apply Kd.R_drew)); exact (Q_HO201 h0_)) (by decide)) hk (fun _ h => h.2)) (fun _ h => h.1)) | exact Kd.R_mono (Kd.R_mono (Kd.R_keep (IsS64.apart (show IsS64 w _ g189 t186 t210 t211 from by repeat (first | (with_reducible first | exact HI189.out | apply IsS64.alloc | apply IsS64.drewN | apply IsS64.drew | apply IsS64.set_1 | apply IsS64.set_2) | exact HI189.out)) (by (with_reducible repeat (first | apply Kd.R_alloc | apply Kd.R_drewN | apply Kd.R_drew)); exact (Q_HO201 h0_)) (by decide)) hk (fun _ h => h.2)) (fun _ h => h.1)) (fun _ h_ => by first | trivial | exact h_ | exact h_.1))
                  clear HB
                  clear HI189
                  have HB := n0_
                  have HI189 := n1_
                  clear n0_ n1_
                  (try clear hb)
                  (try clear hb2)
                  (try clear hk)
                  (try clear hi)
                  refine hK.out _ _ ⟨v200, adz_v200, v216, adz_v216, v229, adz_v229, m9_, m20_, m30_, (by rw [ha.out]; exact putSel_upk 9 hb_ rfl rfl rfl), fun h0_ => absurd ((hon 1 (by kernel_rfl)).symm.trans h0_) (by decide), (by repeat (first | (with_reducible first | exact HB.out | apply below_alloc | apply pw_below_drewN | apply below_drew1 | refine below_set ?_ (IsS64.ge HI189.out)) | exact HB.out)), fun _ h1_ => absurd ((hon 3 (by kernel_rfl)).symm.trans h1_) (by decide), fun _ h1_ => absurd ((hon 5 (by kernel_rfl)).symm.trans h1_) (by decide), fun _ h1_ => absurd ((hon 8 (by kernel_rfl)).symm.trans h1_) (by decide), z_HO201, Q_HA_HO201, fun _ h1_ => absurd ((hon 12 (by kernel_rfl)).symm.trans h1_) (by decide), fun _ h1_ => absurd ((hon 14 (by kernel_rfl)).symm.trans h1_) (by decide), fun _ h1_ => absurd ((up_self b 16).symm.trans h1_) (by decide), fun _ _ => (by repeat (first | (with_reducible first | exact HI189.out | apply IsS64.alloc | apply IsS64.drewN | apply IsS64.drew | apply IsS64.set_1 | apply IsS64.set_2) | exact HI189.out)), fun h0_ => absurd ((hoff 17 (by kernel_rfl)).symm.trans h0_) (by decide), fun h0_ => absurd ((hoff 17 (by kernel_rfl)).symm.trans h0_) (by decide), fun h0_ _ => absurd ((hoff 19 (by kernel_rfl)).symm.trans h0_) (by decide), fun h0_ _ => absurd ((hoff 23 (by kernel_rfl)).symm.trans h0_) (by decide), fun h0_ _ => absurd ((hoff 26 (by kernel_rfl)).symm.trans h0_) (by decide), fun h0_ => absurd ((hoff 27 (by kernel_rfl)).symm.trans h0_) (by decide), fun h0_ => absurd ((hoff 27 (by kernel_rfl)).symm.trans h0_) (by decide), fun h0_ => absurd ((hoff 29 (by kernel_rfl)).symm.trans h0_) (by decide), Q_X9_, fun h0_ => absurd ((hoff 20 (by kernel_rfl)).symm.trans h0_) (by decide), fun h0_ => absurd ((hoff 30 (by kernel_rfl)).symm.trans h0_) (by decide)⟩
                refine steps_cons ?_ ?_
                · rintro b a w' ⟨v200, adz_v200, v216, adz_v216, v229, adz_v229, m9_, m20_, m30_, ha, Q_HI189, Q_HB, Q_HI189_e1, Q_HI189_e3, Q_HI189_e5, Q_HO201, Q_HA_HO201, Q_HI189_e8, Q_HI189_e12, Q_HI189_e14, Q_HI189_e16, Q_HO217, Q_HA_HO217, Q_HI189_e19, Q_HI189_e23, Q_HI189_e26, Q_HO230, Q_HA_HO230, Q_HI189_e29, Q_X9_, Q_X20_, Q_X30_⟩ hb_ hon hoff
                  refine ⟨_, rfl, fun K hK => ?_⟩
                  have e20 : a.tmps[20]? = some (.int .i64 t206) := by rw [ha]; exact putSel_on (e := (12, 20, .int .i64 t206)) 7 rfl rfl (hon 12 (by kernel_rfl)) rfl
                  have e22 : a.tmps[22]? = some (.int .i64 t209) := by rw [ha]; exact putSel_on (e := (14, 22, .int .i64 t209)) 8 rfl rfl (hon 14 (by kernel_rfl)) rfl
                  have e24 : a.tmps[24]? = some (.int .i64 t212) := by rw [ha]; exact putSel_on (e := (16, 24, .int .i64 t212)) 9 rfl rfl (hon 16 (by kernel_rfl)) rfl
                  replace ha := Aside0.mk ha
                  have HB := Aside0.mk Q_HB
                  refine Kd.R_lit_step (Kd.int .i64) _ 3 ?hg (N := 25) ?hd (xs := ([t206, t209, t212] : List Int)) (inner := [.int .i64 t206, .int .i64 t209, .int .i64 t212]) (ok := fun _ => True) (okp := fun _ => True) ?hr ?hp (fun _ hk => hk) trivial (Below.refl _ _) (Nat.le_refl _) (by simp) ?_; (case hd => rfl); (case hg => rfl); (case hr => first | (go_simp; done) | (go_simp; rfl)); (case hp => exact (Reps.one (show Kd.M (Kd.int .i64) _ _ _ t206 [.int .i64 t206] from rfl) (Reps.one (show Kd.M (Kd.int .i64) _ _ _ t209 [.int .i64 t209] from rfl) (Reps.one (show Kd.M (Kd.int .i64) _ _ _ t212 [.int .i64 t212] from rfl) (Reps.none _ _)))))
                  intro v216 w30 ho31 hb hg_ hnew_
                  clear hg_ hnew_
                  (first | rw [← Ny215.out] at ho31 | (simp only [Int.reduceToNat] at ho31; rw [← Ny215.out] at ho31))
                  have n0_ := Aside0.mk (Kd.R_lower ho31 (below_size (by repeat (first | (with_reducible first | exact HB.out | apply below_alloc | apply pw_below_drewN | apply below_drew1) | exact HB.out))))
                  have n2_ := Aside0.mk (below_step (by repeat (first | (with_reducible first | exact HB.out | apply below_alloc | apply pw_below_drewN | apply below_drew1) | exact HB.out)) hb)
                  have z_HO201 := fun (h0_ : b 6 = true) => (show Kd.R (Kd.int .i64) 3 w30 w.heap.size (fun _ => True) v200 y199 from by first | exact (Kd.R_elder' (by (with_reducible repeat (first | apply Kd.R_alloc | apply Kd.R_drewN | apply Kd.R_drew)); exact (Q_HO201 h0_)) (Kd.R_base ho31) hb) | exact Kd.R_mono (Kd.R_elder' (by (with_reducible repeat (first | apply Kd.R_alloc | apply Kd.R_drewN | apply Kd.R_drew)); exact (Q_HO201 h0_)) (Kd.R_base ho31) hb) (fun _ h_ => by first | trivial | exact h_ | exact h_.1))
                  have z_HI189_e16 := fun (h0_ : b 16 = true) (h1_ : b 19 = false) => (show IsS64 w w30 g189 t186 t213 t214 from by first | exact (IsS64.below (by repeat (first | (with_reducible first | exact (Q_HI189_e16 h0_ h1_) | apply IsS64.alloc | apply IsS64.drewN | apply IsS64.drew | apply IsS64.set_1 | apply IsS64.set_2) | exact (Q_HI189_e16 h0_ h1_))) hb))
                  have z_HI189_e19 := fun (h0_ : b 19 = true) (h1_ : b 23 = false) => (show IsS64 w w30 g189 t186 t219 t220 from by first | exact (IsS64.below (by repeat (first | (with_reducible first | exact (Q_HI189_e19 h0_ h1_) | apply IsS64.alloc | apply IsS64.drewN | apply IsS64.drew | apply IsS64.set_1 | apply IsS64.set_2) | exact (Q_HI189_e19 h0_ h1_))) hb))
                  have z_HI189_e23 := fun (h0_ : b 23 = true) (h1_ : b 26 = false) => (show IsS64 w w30 g189 t186 t223 t224 from by first | exact (IsS64.below (by repeat (first | (with_reducible first | exact (Q_HI189_e23 h0_ h1_) | apply IsS64.alloc | apply IsS64.drewN | apply IsS64.drew | apply IsS64.set_1 | apply IsS64.set_2) | exact (Q_HI189_e23 h0_ h1_))) hb))
                  have z_HI189_e26 := fun (h0_ : b 26 = true) (h1_ : b 29 = false) => (show IsS64 w w30 g189 t186 t226 t227 from by first | exact (IsS64.below (by repeat (first | (with_reducible first | exact (Q_HI189_e26 h0_ h1_) | apply IsS64.alloc | apply IsS64.drewN | apply IsS64.drew | apply IsS64.set_1 | apply IsS64.set_2) | exact (Q_HI189_e26 h0_ h1_))) hb))
                  have z_HO230 := fun (h0_ : b 27 = true) => (show Kd.R (Kd.int .i64) 3 w30 w.heap.size (fun _ => True) v229 y228 from by first | exact (Kd.R_elder' (by (with_reducible repeat (first | apply Kd.R_alloc | apply Kd.R_drewN | apply Kd.R_drew)); exact (Q_HO230 h0_)) (Kd.R_base ho31) hb) | exact Kd.R_mono (Kd.R_elder' (by (with_reducible repeat (first | apply Kd.R_alloc | apply Kd.R_drewN | apply Kd.R_drew)); exact (Q_HO230 h0_)) (Kd.R_base ho31) hb) (fun _ h_ => by first | trivial | exact h_ | exact h_.1))
                  have z_HI189_e29 := fun (h0_ : b 29 = true) => (show IsS64 w w30 g189 t186 t232 t233 from by first | exact (IsS64.below (by repeat (first | (with_reducible first | exact (Q_HI189_e29 h0_) | apply IsS64.alloc | apply IsS64.drewN | apply IsS64.drew | apply IsS64.set_1 | apply IsS64.set_2) | exact (Q_HI189_e29 h0_))) hb))
                  clear HB
                  have HO217 := n0_
                  have HB := n2_
                  clear n0_ n2_
                  clear hb ho31
                  obtain ⟨Ao32, co32, eo32⟩ := Kd.R_slice HO217.out
                  subst eo32
                  obtain ⟨ado32, fo32, _⟩ := Kd.at_int (Kd.R_reads' HO217.out).2.2 0 (by decide) (by rw [Ny215.out]; simp)
                  cases fo32
                  refine hK.out _ _ ⟨v200, adz_v200, .slice (some ado32) y215.length co32, ado32, v229, adz_v229, m9_, m20_, m30_, (by rw [ha.out]; exact putSel_upk 10 hb_ rfl rfl rfl), fun h0_ => absurd ((hon 1 (by kernel_rfl)).symm.trans h0_) (by decide), (by repeat (first | (with_reducible first | exact HB.out | apply below_alloc | apply pw_below_drewN | apply below_drew1) | exact HB.out)), fun _ h1_ => absurd ((hon 3 (by kernel_rfl)).symm.trans h1_) (by decide), fun _ h1_ => absurd ((hon 5 (by kernel_rfl)).symm.trans h1_) (by decide), fun _ h1_ => absurd ((hon 8 (by kernel_rfl)).symm.trans h1_) (by decide), z_HO201, Q_HA_HO201, fun _ h1_ => absurd ((hon 12 (by kernel_rfl)).symm.trans h1_) (by decide), fun _ h1_ => absurd ((hon 14 (by kernel_rfl)).symm.trans h1_) (by decide), fun _ h1_ => absurd ((hon 16 (by kernel_rfl)).symm.trans h1_) (by decide), z_HI189_e16, fun _ => (by (with_reducible repeat (first | apply Kd.R_alloc | apply Kd.R_drewN | apply Kd.R_drew)); exact HO217.out), fun _ => ⟨_, rfl⟩, z_HI189_e19, z_HI189_e23, z_HI189_e26, z_HO230, Q_HA_HO230, z_HI189_e29, Q_X9_, fun h0_ => absurd ((hoff 20 (by kernel_rfl)).symm.trans h0_) (by decide), Q_X30_⟩
                refine steps_cons ?_ ?_
                · rintro b a w' ⟨v200, adz_v200, v216, adz_v216, v229, adz_v229, m9_, m20_, m30_, ha, Q_HI189, Q_HB, Q_HI189_e1, Q_HI189_e3, Q_HI189_e5, Q_HO201, Q_HA_HO201, Q_HI189_e8, Q_HI189_e12, Q_HI189_e14, Q_HI189_e16, Q_HO217, Q_HA_HO217, Q_HI189_e19, Q_HI189_e23, Q_HI189_e26, Q_HO230, Q_HA_HO230, Q_HI189_e29, Q_X9_, Q_X20_, Q_X30_⟩ hb_ hon hoff
                  refine ⟨_, rfl, fun K hK => ?_⟩
                  have e26 : a.tmps[26]? = some (.pointer (some ⟨g189, 0, none⟩)) := by rw [ha]; exact (putSel_off rfl).trans rfl
                  replace ha := Aside0.mk ha
                  have HB := Aside0.mk Q_HB
                  have HI189 := Aside0.mk (Q_HI189_e16 (hon 16 (by kernel_rfl)) hb_)
                  refine goes_ Try.func33 (by kernel_rfl) rfl #[.pointer (some ⟨g189, 0, none⟩), .int .i64 3] (by rfl) rfl rfl (by first | (simp only [List.map_toArray, List.map_cons, List.map_nil, Act.eval, Array.getD_eq_getD_getElem?, Option.getD_some, e26]; done) | (simp only [List.map_toArray, List.map_cons, List.map_nil, Act.eval, Array.getD_eq_getD_getElem?, Option.getD_some, e26]; rfl)) ?_
                  with_reducible refine (spec_l01Cur_pick.calls g189 t186 t213 t214 3 t218 t219 t220 w _ ?side1 ?side2 A12.out).mono ?_
                  (case side1 => repeat (first | (with_reducible first | exact HI189.out | apply IsS64.alloc | apply IsS64.drewN | apply IsS64.drew | apply IsS64.set_1 | apply IsS64.set_2) | exact HI189.out))
                  (case side2 => repeat (first | (with_reducible first | exact HB.out | apply below_alloc | apply pw_below_drewN | apply below_drew1 | refine below_set ?_ (IsS64.ge HI189.out)) | exact HB.out))
                  rintro e w30 ⟨rfl, hi, hb, hk⟩
                  refine ⟨_, rfl, ?_⟩
                  have n0_ := Aside0.mk (hb)
                  have n1_ := Aside0.mk (hi)
                  have z_HO201 := fun (h0_ : b 6 = true) => (show Kd.R (Kd.int .i64) 3 w30 w.heap.size (fun _ => True) v200 y199 from by first | exact (Kd.R_mono (Kd.R_keep (IsS64.apart (show IsS64 w _ g189 t186 t213 t214 from by repeat (first | (with_reducible first | exact HI189.out | apply IsS64.alloc | apply IsS64.drewN | apply IsS64.drew | apply IsS64.set_1 | apply IsS64.set_2) | exact HI189.out)) (by (with_reducible repeat (first | apply Kd.R_alloc | apply Kd.R_drewN | apply Kd.R_drew)); exact (Q_HO201 h0_)) (by decide)) hk (fun _ h => h.2)) (fun _ h => h.1)) | exact Kd.R_mono (Kd.R_mono (Kd.R_keep (IsS64.apart (show IsS64 w _ g189 t186 t213 t214 from by repeat (first | (with_reducible first | exact HI189.out | apply IsS64.alloc | apply IsS64.drewN | apply IsS64.drew | apply IsS64.set_1 | apply IsS64.set_2) | exact HI189.out)) (by (with_reducible repeat (first | apply Kd.R_alloc | apply Kd.R_drewN | apply Kd.R_drew)); exact (Q_HO201 h0_)) (by decide)) hk (fun _ h => h.2)) (fun _ h => h.1)) (fun _ h_ => by first | trivial | exact h_ | exact h_.1))
                  have z_HO217 := fun (h0_ : b 17 = true) => (show Kd.R (Kd.int .i64) 3 w30 w.heap.size (fun _ => True) v216 y215 from by first | exact (Kd.R_mono (Kd.R_keep (IsS64.apart (show IsS64 w _ g189 t186 t213 t214 from by repeat (first | (with_reducible first | exact HI189.out | apply IsS64.alloc | apply IsS64.drewN | apply IsS64.drew | apply IsS64.set_1 | apply IsS64.set_2) | exact HI189.out)) (by (with_reducible repeat (first | apply Kd.R_alloc | apply Kd.R_drewN | apply Kd.R_drew)); exact (Q_HO217 h0_)) (by decide)) hk (fun _ h => h.2)) (fun _ h => h.1)) | exact Kd.R_mono (Kd.R_mono (Kd.R_keep (IsS64.apart (show IsS64 w _ g189 t186 t213 t214 from by repeat (first | (with_reducible first | exact HI189.out | apply IsS64.alloc | apply IsS64.drewN | apply IsS64.drew | apply IsS64.set_1 | apply IsS64.set_2) | exact HI189.out)) (by (with_reducible repeat (first | apply Kd.R_alloc | apply Kd.R_drewN | apply Kd.R_drew)); exact (Q_HO217 h0_)) (by decide)) hk (fun _ h => h.2)) (fun _ h => h.1)) (fun _ h_ => by first | trivial | exact h_ | exact h_.1))
                  clear HB
                  clear HI189
                  have HB := n0_
                  have HI189 := n1_
                  clear n0_ n1_
                  (try clear hb)
                  (try clear hb2)
                  (try clear hk)
                  (try clear hi)
                  refine hK.out _ _ ⟨v200, adz_v200, v216, adz_v216, v229, adz_v229, m9_, m20_, m30_, (by rw [ha.out]; exact putSel_upk 11 hb_ rfl rfl rfl), fun h0_ => absurd ((hon 1 (by kernel_rfl)).symm.trans h0_) (by decide), (by repeat (first | (with_reducible first | exact HB.out | apply below_alloc | apply pw_below_drewN | apply below_drew1 | refine below_set ?_ (IsS64.ge HI189.out)) | exact HB.out)), fun _ h1_ => absurd ((hon 3 (by kernel_rfl)).symm.trans h1_) (by decide), fun _ h1_ => absurd ((hon 5 (by kernel_rfl)).symm.trans h1_) (by decide), fun _ h1_ => absurd ((hon 8 (by kernel_rfl)).symm.trans h1_) (by decide), z_HO201, Q_HA_HO201, fun _ h1_ => absurd ((hon 12 (by kernel_rfl)).symm.trans h1_) (by decide), fun _ h1_ => absurd ((hon 14 (by kernel_rfl)).symm.trans h1_) (by decide), fun _ h1_ => absurd ((hon 16 (by kernel_rfl)).symm.trans h1_) (by decide), fun _ h1_ => absurd ((up_self b 19).symm.trans h1_) (by decide), z_HO217, Q_HA_HO217, fun _ _ => (by repeat (first | (with_reducible first | exact HI189.out | apply IsS64.alloc | apply IsS64.drewN | apply IsS64.drew | apply IsS64.set_1 | apply IsS64.set_2) | exact HI189.out)), fun h0_ _ => absurd ((hoff 23 (by kernel_rfl)).symm.trans h0_) (by decide), fun h0_ _ => absurd ((hoff 26 (by kernel_rfl)).symm.trans h0_) (by decide), fun h0_ => absurd ((hoff 27 (by kernel_rfl)).symm.trans h0_) (by decide), fun h0_ => absurd ((hoff 27 (by kernel_rfl)).symm.trans h0_) (by decide), fun h0_ => absurd ((hoff 29 (by kernel_rfl)).symm.trans h0_) (by decide), Q_X9_, fun h0_ => absurd ((hoff 20 (by kernel_rfl)).symm.trans h0_) (by decide), fun h0_ => absurd ((hoff 30 (by kernel_rfl)).symm.trans h0_) (by decide)⟩
                refine steps_cons ?_ ?_
                · rintro b a w' ⟨v200, adz_v200, v216, adz_v216, v229, adz_v229, m9_, m20_, m30_, ha, Q_HI189, Q_HB, Q_HI189_e1, Q_HI189_e3, Q_HI189_e5, Q_HO201, Q_HA_HO201, Q_HI189_e8, Q_HI189_e12, Q_HI189_e14, Q_HI189_e16, Q_HO217, Q_HA_HO217, Q_HI189_e19, Q_HI189_e23, Q_HI189_e26, Q_HO230, Q_HA_HO230, Q_HI189_e29, Q_X9_, Q_X20_, Q_X30_⟩ hb_ hon hoff
                  refine ⟨_, rfl, fun K hK => ?_⟩
                  have e25 : a.tmps[25]? = some (v216) := by rw [ha]; exact putSel_on (e := (17, 25, v216)) 10 rfl rfl (hon 17 (by kernel_rfl)) rfl
                  have e27 : a.tmps[27]? = some (.int .i64 t218) := by rw [ha]; exact putSel_on (e := (19, 27, .int .i64 t218)) 11 rfl rfl (hon 19 (by kernel_rfl)) rfl
                  replace ha := Aside0.mk ha
                  have HB := Aside0.mk Q_HB
                  have HO217 := Aside0.mk (Q_HO217 (hon 17 (by kernel_rfl)))
                  have HA_HO217 := Aside0.mk (Q_HA_HO217 (hon 17 (by kernel_rfl)))
                  obtain ⟨c_, hv_⟩ := HA_HO217.out
                  rw [hv_] at e25
                  refine value_ (w1 := w') (v := .pointer (some (adz_v216.add (t218).toNat))) (by rfl) rfl ?_ ?_
                  · go_simp
                    (try simp only [i64_w])
                    try rfl
                  refine hK.out _ _ ⟨v200, adz_v200, v216, adz_v216, v229, adz_v229, m9_, (.pointer (some (adz_v216.add (t218).toNat))), m30_, (by rw [ha.out]; exact putSel_upk 12 hb_ rfl rfl rfl), fun h0_ => absurd ((hon 1 (by kernel_rfl)).symm.trans h0_) (by decide), Q_HB, fun _ h1_ => absurd ((hon 3 (by kernel_rfl)).symm.trans h1_) (by decide), fun _ h1_ => absurd ((hon 5 (by kernel_rfl)).symm.trans h1_) (by decide), fun _ h1_ => absurd ((hon 8 (by kernel_rfl)).symm.trans h1_) (by decide), Q_HO201, Q_HA_HO201, fun _ h1_ => absurd ((hon 12 (by kernel_rfl)).symm.trans h1_) (by decide), fun _ h1_ => absurd ((hon 14 (by kernel_rfl)).symm.trans h1_) (by decide), fun _ h1_ => absurd ((hon 16 (by kernel_rfl)).symm.trans h1_) (by decide), fun _ h1_ => absurd ((hon 19 (by kernel_rfl)).symm.trans h1_) (by decide), Q_HO217, Q_HA_HO217, Q_HI189_e19, Q_HI189_e23, Q_HI189_e26, Q_HO230, Q_HA_HO230, Q_HI189_e29, Q_X9_, fun _ => rfl, Q_X30_⟩
                refine steps_cons ?_ ?_
                · rintro b a w' ⟨v200, adz_v200, v216, adz_v216, v229, adz_v229, m9_, m20_, m30_, ha, Q_HI189, Q_HB, Q_HI189_e1, Q_HI189_e3, Q_HI189_e5, Q_HO201, Q_HA_HO201, Q_HI189_e8, Q_HI189_e12, Q_HI189_e14, Q_HI189_e16, Q_HO217, Q_HA_HO217, Q_HI189_e19, Q_HI189_e23, Q_HI189_e26, Q_HO230, Q_HA_HO230, Q_HI189_e29, Q_X9_, Q_X20_, Q_X30_⟩ hb_ hon hoff
                  refine ⟨_, rfl, fun K hK => ?_⟩
                  have e28 : a.tmps[28]? = some (m20_) := by rw [ha]; exact putSel_on (e := (20, 28, m20_)) 12 rfl rfl (hon 20 (by kernel_rfl)) rfl
                  rw [Q_X20_ (hon 20 (by kernel_rfl))] at e28
                  replace ha := Aside0.mk ha
                  have HB := Aside0.mk Q_HB
                  have HO217 := Aside0.mk (Q_HO217 (hon 17 (by kernel_rfl)))
                  have HA_HO217 := Aside0.mk (Q_HA_HO217 (hon 17 (by kernel_rfl)))
                  obtain ⟨c_, hv_⟩ := HA_HO217.out
                  have hF_ := HO217.out
                  rw [hv_] at hF_
                  obtain ⟨ad_, ea_, hx_⟩ := Kd.at_int (Kd.R_reads' hF_).2.2 t218 (of_eq_true pi221) (of_eq_true qi221)
                  cases ea_
                  refine value_ (w1 := w') (v := .int .i64 (rd y215 t218)) (by rfl) rfl ?_ ?_
                  · go_simp
                    (try simp only [i64_w])
                    try rfl
                  refine hK.out _ _ ⟨v200, adz_v200, v216, adz_v216, v229, adz_v229, m9_, m20_, m30_, (by rw [ha.out]; exact putSel_upk 13 hb_ rfl rfl rfl), fun h0_ => absurd ((hon 1 (by kernel_rfl)).symm.trans h0_) (by decide), Q_HB, fun _ h1_ => absurd ((hon 3 (by kernel_rfl)).symm.trans h1_) (by decide), fun _ h1_ => absurd ((hon 5 (by kernel_rfl)).symm.trans h1_) (by decide), fun _ h1_ => absurd ((hon 8 (by kernel_rfl)).symm.trans h1_) (by decide), Q_HO201, Q_HA_HO201, fun _ h1_ => absurd ((hon 12 (by kernel_rfl)).symm.trans h1_) (by decide), fun _ h1_ => absurd ((hon 14 (by kernel_rfl)).symm.trans h1_) (by decide), fun _ h1_ => absurd ((hon 16 (by kernel_rfl)).symm.trans h1_) (by decide), fun _ h1_ => absurd ((hon 19 (by kernel_rfl)).symm.trans h1_) (by decide), Q_HO217, Q_HA_HO217, Q_HI189_e19, Q_HI189_e23, Q_HI189_e26, Q_HO230, Q_HA_HO230, Q_HI189_e29, Q_X9_, Q_X20_, Q_X30_⟩
                refine steps_cons ?_ ?_
                · rintro b a w' ⟨v200, adz_v200, v216, adz_v216, v229, adz_v229, m9_, m20_, m30_, ha, Q_HI189, Q_HB, Q_HI189_e1, Q_HI189_e3, Q_HI189_e5, Q_HO201, Q_HA_HO201, Q_HI189_e8, Q_HI189_e12, Q_HI189_e14, Q_HI189_e16, Q_HO217, Q_HA_HO217, Q_HI189_e19, Q_HI189_e23, Q_HI189_e26, Q_HO230, Q_HA_HO230, Q_HI189_e29, Q_X9_, Q_X20_, Q_X30_⟩ hb_ hon hoff
                  refine ⟨_, rfl, fun K hK => ?_⟩
                  have e30 : a.tmps[30]? = some (.pointer (some ⟨g189, 0, none⟩)) := by rw [ha]; exact (putSel_off rfl).trans rfl
                  replace ha := Aside0.mk ha
                  have HB := Aside0.mk Q_HB
                  have HI189 := Aside0.mk (Q_HI189_e19 (hon 19 (by kernel_rfl)) hb_)
                  refine goes_ Try.func33 (by kernel_rfl) rfl #[.pointer (some ⟨g189, 0, none⟩), .int .i64 16] (by rfl) rfl rfl (by first | (simp only [List.map_toArray, List.map_cons, List.map_nil, Act.eval, Array.getD_eq_getD_getElem?, Option.getD_some, e30]; done) | (simp only [List.map_toArray, List.map_cons, List.map_nil, Act.eval, Array.getD_eq_getD_getElem?, Option.getD_some, e30]; rfl)) ?_
                  with_reducible refine (spec_l01Cur_pick.calls g189 t186 t219 t220 16 t222 t223 t224 w _ ?side1 ?side2 A15.out).mono ?_
                  (case side1 => repeat (first | (with_reducible first | exact HI189.out | apply IsS64.alloc | apply IsS64.drewN | apply IsS64.drew | apply IsS64.set_1 | apply IsS64.set_2) | exact HI189.out))
                  (case side2 => repeat (first | (with_reducible first | exact HB.out | apply below_alloc | apply pw_below_drewN | apply below_drew1 | refine below_set ?_ (IsS64.ge HI189.out)) | exact HB.out))
                  rintro e w31 ⟨rfl, hi, hb, hk⟩
                  refine ⟨_, rfl, ?_⟩
                  have n0_ := Aside0.mk (hb)
                  have n1_ := Aside0.mk (hi)
                  have z_HO201 := fun (h0_ : b 6 = true) => (show Kd.R (Kd.int .i64) 3 w31 w.heap.size (fun _ => True) v200 y199 from by first | exact (Kd.R_mono (Kd.R_keep (IsS64.apart (show IsS64 w _ g189 t186 t219 t220 from by repeat (first | (with_reducible first | exact HI189.out | apply IsS64.alloc | apply IsS64.drewN | apply IsS64.drew | apply IsS64.set_1 | apply IsS64.set_2) | exact HI189.out)) (by (with_reducible repeat (first | apply Kd.R_alloc | apply Kd.R_drewN | apply Kd.R_drew)); exact (Q_HO201 h0_)) (by decide)) hk (fun _ h => h.2)) (fun _ h => h.1)) | exact Kd.R_mono (Kd.R_mono (Kd.R_keep (IsS64.apart (show IsS64 w _ g189 t186 t219 t220 from by repeat (first | (with_reducible first | exact HI189.out | apply IsS64.alloc | apply IsS64.drewN | apply IsS64.drew | apply IsS64.set_1 | apply IsS64.set_2) | exact HI189.out)) (by (with_reducible repeat (first | apply Kd.R_alloc | apply Kd.R_drewN | apply Kd.R_drew)); exact (Q_HO201 h0_)) (by decide)) hk (fun _ h => h.2)) (fun _ h => h.1)) (fun _ h_ => by first | trivial | exact h_ | exact h_.1))
                  have z_HO217 := fun (h0_ : b 17 = true) => (show Kd.R (Kd.int .i64) 3 w31 w.heap.size (fun _ => True) v216 y215 from by first | exact (Kd.R_mono (Kd.R_keep (IsS64.apart (show IsS64 w _ g189 t186 t219 t220 from by repeat (first | (with_reducible first | exact HI189.out | apply IsS64.alloc | apply IsS64.drewN | apply IsS64.drew | apply IsS64.set_1 | apply IsS64.set_2) | exact HI189.out)) (by (with_reducible repeat (first | apply Kd.R_alloc | apply Kd.R_drewN | apply Kd.R_drew)); exact (Q_HO217 h0_)) (by decide)) hk (fun _ h => h.2)) (fun _ h => h.1)) | exact Kd.R_mono (Kd.R_mono (Kd.R_keep (IsS64.apart (show IsS64 w _ g189 t186 t219 t220 from by repeat (first | (with_reducible first | exact HI189.out | apply IsS64.alloc | apply IsS64.drewN | apply IsS64.drew | apply IsS64.set_1 | apply IsS64.set_2) | exact HI189.out)) (by (with_reducible repeat (first | apply Kd.R_alloc | apply Kd.R_drewN | apply Kd.R_drew)); exact (Q_HO217 h0_)) (by decide)) hk (fun _ h => h.2)) (fun _ h => h.1)) (fun _ h_ => by first | trivial | exact h_ | exact h_.1))
                  clear HB
                  clear HI189
                  have HB := n0_
                  have HI189 := n1_
                  clear n0_ n1_
                  (try clear hb)
                  (try clear hb2)
                  (try clear hk)
                  (try clear hi)
                  refine hK.out _ _ ⟨v200, adz_v200, v216, adz_v216, v229, adz_v229, m9_, m20_, m30_, (by rw [ha.out]; exact putSel_upk 14 hb_ rfl rfl rfl), fun h0_ => absurd ((hon 1 (by kernel_rfl)).symm.trans h0_) (by decide), (by repeat (first | (with_reducible first | exact HB.out | apply below_alloc | apply pw_below_drewN | apply below_drew1 | refine below_set ?_ (IsS64.ge HI189.out)) | exact HB.out)), fun _ h1_ => absurd ((hon 3 (by kernel_rfl)).symm.trans h1_) (by decide), fun _ h1_ => absurd ((hon 5 (by kernel_rfl)).symm.trans h1_) (by decide), fun _ h1_ => absurd ((hon 8 (by kernel_rfl)).symm.trans h1_) (by decide), z_HO201, Q_HA_HO201, fun _ h1_ => absurd ((hon 12 (by kernel_rfl)).symm.trans h1_) (by decide), fun _ h1_ => absurd ((hon 14 (by kernel_rfl)).symm.trans h1_) (by decide), fun _ h1_ => absurd ((hon 16 (by kernel_rfl)).symm.trans h1_) (by decide), fun _ h1_ => absurd ((hon 19 (by kernel_rfl)).symm.trans h1_) (by decide), z_HO217, Q_HA_HO217, fun _ h1_ => absurd ((up_self b 23).symm.trans h1_) (by decide), fun _ _ => (by repeat (first | (with_reducible first | exact HI189.out | apply IsS64.alloc | apply IsS64.drewN | apply IsS64.drew | apply IsS64.set_1 | apply IsS64.set_2) | exact HI189.out)), fun h0_ _ => absurd ((hoff 26 (by kernel_rfl)).symm.trans h0_) (by decide), fun h0_ => absurd ((hoff 27 (by kernel_rfl)).symm.trans h0_) (by decide), fun h0_ => absurd ((hoff 27 (by kernel_rfl)).symm.trans h0_) (by decide), fun h0_ => absurd ((hoff 29 (by kernel_rfl)).symm.trans h0_) (by decide), Q_X9_, Q_X20_, fun h0_ => absurd ((hoff 30 (by kernel_rfl)).symm.trans h0_) (by decide)⟩
                refine steps_cons ?_ ?_
                · rintro b a w' ⟨v200, adz_v200, v216, adz_v216, v229, adz_v229, m9_, m20_, m30_, ha, Q_HI189, Q_HB, Q_HI189_e1, Q_HI189_e3, Q_HI189_e5, Q_HO201, Q_HA_HO201, Q_HI189_e8, Q_HI189_e12, Q_HI189_e14, Q_HI189_e16, Q_HO217, Q_HA_HO217, Q_HI189_e19, Q_HI189_e23, Q_HI189_e26, Q_HO230, Q_HA_HO230, Q_HI189_e29, Q_X9_, Q_X20_, Q_X30_⟩ hb_ hon hoff
                  refine ⟨_, rfl, fun K hK => ?_⟩
                  have e31 : a.tmps[31]? = some (.int .i64 t222) := by rw [ha]; exact putSel_on (e := (23, 31, .int .i64 t222)) 14 rfl rfl (hon 23 (by kernel_rfl)) rfl
                  replace ha := Aside0.mk ha
                  have HB := Aside0.mk Q_HB
                  refine value_ (w1 := w') (v := .int .i64 (wrap64 (1 + t222))) (by rfl) rfl ?_ ?_
                  · go_simp
                    (try simp only [i64_w])
                    try rfl
                  refine hK.out _ _ ⟨v200, adz_v200, v216, adz_v216, v229, adz_v229, m9_, m20_, m30_, (by rw [ha.out]; exact putSel_upk 15 hb_ rfl rfl rfl), fun h0_ => absurd ((hon 1 (by kernel_rfl)).symm.trans h0_) (by decide), Q_HB, fun _ h1_ => absurd ((hon 3 (by kernel_rfl)).symm.trans h1_) (by decide), fun _ h1_ => absurd ((hon 5 (by kernel_rfl)).symm.trans h1_) (by decide), fun _ h1_ => absurd ((hon 8 (by kernel_rfl)).symm.trans h1_) (by decide), Q_HO201, Q_HA_HO201, fun _ h1_ => absurd ((hon 12 (by kernel_rfl)).symm.trans h1_) (by decide), fun _ h1_ => absurd ((hon 14 (by kernel_rfl)).symm.trans h1_) (by decide), fun _ h1_ => absurd ((hon 16 (by kernel_rfl)).symm.trans h1_) (by decide), fun _ h1_ => absurd ((hon 19 (by kernel_rfl)).symm.trans h1_) (by decide), Q_HO217, Q_HA_HO217, fun _ h1_ => absurd ((hon 23 (by kernel_rfl)).symm.trans h1_) (by decide), Q_HI189_e23, Q_HI189_e26, fun h0_ => absurd ((hoff 27 (by kernel_rfl)).symm.trans h0_) (by decide), fun h0_ => absurd ((hoff 27 (by kernel_rfl)).symm.trans h0_) (by decide), Q_HI189_e29, Q_X9_, Q_X20_, fun h0_ => absurd ((hoff 30 (by kernel_rfl)).symm.trans h0_) (by decide)⟩
                refine steps_cons ?_ ?_
                · rintro b a w' ⟨v200, adz_v200, v216, adz_v216, v229, adz_v229, m9_, m20_, m30_, ha, Q_HI189, Q_HB, Q_HI189_e1, Q_HI189_e3, Q_HI189_e5, Q_HO201, Q_HA_HO201, Q_HI189_e8, Q_HI189_e12, Q_HI189_e14, Q_HI189_e16, Q_HO217, Q_HA_HO217, Q_HI189_e19, Q_HI189_e23, Q_HI189_e26, Q_HO230, Q_HA_HO230, Q_HI189_e29, Q_X9_, Q_X20_, Q_X30_⟩ hb_ hon hoff
                  refine ⟨_, rfl, fun K hK => ?_⟩
                  have e33 : a.tmps[33]? = some (.pointer (some ⟨g189, 0, none⟩)) := by rw [ha]; exact (putSel_off rfl).trans rfl
                  replace ha := Aside0.mk ha
                  have HB := Aside0.mk Q_HB
                  have HI189 := Aside0.mk (Q_HI189_e23 (hon 23 (by kernel_rfl)) hb_)
                  refine goes_ Try.func34 (by kernel_rfl) rfl #[.pointer (some ⟨g189, 0, none⟩)] (by rfl) rfl rfl (by first | (simp only [List.map_toArray, List.map_cons, List.map_nil, Act.eval, Array.getD_eq_getD_getElem?, Option.getD_some, e33]; done) | (simp only [List.map_toArray, List.map_cons, List.map_nil, Act.eval, Array.getD_eq_getD_getElem?, Option.getD_some, e33]; rfl)) ?_
                  with_reducible refine (spec_l01Cur_raw.calls g189 t186 t223 t224 t225 t226 t227 w _ ?side1 ?side2 A16.out).mono ?_
                  (case side1 => repeat (first | (with_reducible first | exact HI189.out | apply IsS64.alloc | apply IsS64.drewN | apply IsS64.drew | apply IsS64.set_1 | apply IsS64.set_2) | exact HI189.out))
                  (case side2 => repeat (first | (with_reducible first | exact HB.out | apply below_alloc | apply pw_below_drewN | apply below_drew1 | refine below_set ?_ (IsS64.ge HI189.out)) | exact HB.out))
                  rintro e w32 ⟨rfl, hi, hb, hk⟩
                  refine ⟨_, rfl, ?_⟩
                  have n0_ := Aside0.mk (hb)
                  have n1_ := Aside0.mk (hi)
                  have z_HO201 := fun (h0_ : b 6 = true) => (show Kd.R (Kd.int .i64) 3 w32 w.heap.size (fun _ => True) v200 y199 from by first | exact (Kd.R_mono (Kd.R_keep (IsS64.apart (show IsS64 w _ g189 t186 t223 t224 from by repeat (first | (with_reducible first | exact HI189.out | apply IsS64.alloc | apply IsS64.drewN | apply IsS64.drew | apply IsS64.set_1 | apply IsS64.set_2) | exact HI189.out)) (by (with_reducible repeat (first | apply Kd.R_alloc | apply Kd.R_drewN | apply Kd.R_drew)); exact (Q_HO201 h0_)) (by decide)) hk (fun _ h => h.2)) (fun _ h => h.1)) | exact Kd.R_mono (Kd.R_mono (Kd.R_keep (IsS64.apart (show IsS64 w _ g189 t186 t223 t224 from by repeat (first | (with_reducible first | exact HI189.out | apply IsS64.alloc | apply IsS64.drewN | apply IsS64.drew | apply IsS64.set_1 | apply IsS64.set_2) | exact HI189.out)) (by (with_reducible repeat (first | apply Kd.R_alloc | apply Kd.R_drewN | apply Kd.R_drew)); exact (Q_HO201 h0_)) (by decide)) hk (fun _ h => h.2)) (fun _ h => h.1)) (fun _ h_ => by first | trivial | exact h_ | exact h_.1))
                  have z_HO217 := fun (h0_ : b 17 = true) => (show Kd.R (Kd.int .i64) 3 w32 w.heap.size (fun _ => True) v216 y215 from by first | exact (Kd.R_mono (Kd.R_keep (IsS64.apart (show IsS64 w _ g189 t186 t223 t224 from by repeat (first | (with_reducible first | exact HI189.out | apply IsS64.alloc | apply IsS64.drewN | apply IsS64.drew | apply IsS64.set_1 | apply IsS64.set_2) | exact HI189.out)) (by (with_reducible repeat (first | apply Kd.R_alloc | apply Kd.R_drewN | apply Kd.R_drew)); exact (Q_HO217 h0_)) (by decide)) hk (fun _ h => h.2)) (fun _ h => h.1)) | exact Kd.R_mono (Kd.R_mono (Kd.R_keep (IsS64.apart (show IsS64 w _ g189 t186 t223 t224 from by repeat (first | (with_reducible first | exact HI189.out | apply IsS64.alloc | apply IsS64.drewN | apply IsS64.drew | apply IsS64.set_1 | apply IsS64.set_2) | exact HI189.out)) (by (with_reducible repeat (first | apply Kd.R_alloc | apply Kd.R_drewN | apply Kd.R_drew)); exact (Q_HO217 h0_)) (by decide)) hk (fun _ h => h.2)) (fun _ h => h.1)) (fun _ h_ => by first | trivial | exact h_ | exact h_.1))
                  clear HB
                  clear HI189
                  have HB := n0_
                  have HI189 := n1_
                  clear n0_ n1_
                  (try clear hb)
                  (try clear hb2)
                  (try clear hk)
                  (try clear hi)
                  refine hK.out _ _ ⟨v200, adz_v200, v216, adz_v216, v229, adz_v229, m9_, m20_, m30_, (by rw [ha.out]; exact putSel_upk 16 hb_ rfl rfl rfl), fun h0_ => absurd ((hon 1 (by kernel_rfl)).symm.trans h0_) (by decide), (by repeat (first | (with_reducible first | exact HB.out | apply below_alloc | apply pw_below_drewN | apply below_drew1 | refine below_set ?_ (IsS64.ge HI189.out)) | exact HB.out)), fun _ h1_ => absurd ((hon 3 (by kernel_rfl)).symm.trans h1_) (by decide), fun _ h1_ => absurd ((hon 5 (by kernel_rfl)).symm.trans h1_) (by decide), fun _ h1_ => absurd ((hon 8 (by kernel_rfl)).symm.trans h1_) (by decide), z_HO201, Q_HA_HO201, fun _ h1_ => absurd ((hon 12 (by kernel_rfl)).symm.trans h1_) (by decide), fun _ h1_ => absurd ((hon 14 (by kernel_rfl)).symm.trans h1_) (by decide), fun _ h1_ => absurd ((hon 16 (by kernel_rfl)).symm.trans h1_) (by decide), fun _ h1_ => absurd ((hon 19 (by kernel_rfl)).symm.trans h1_) (by decide), z_HO217, Q_HA_HO217, fun _ h1_ => absurd ((hon 23 (by kernel_rfl)).symm.trans h1_) (by decide), fun _ h1_ => absurd ((up_self b 26).symm.trans h1_) (by decide), fun _ _ => (by repeat (first | (with_reducible first | exact HI189.out | apply IsS64.alloc | apply IsS64.drewN | apply IsS64.drew | apply IsS64.set_1 | apply IsS64.set_2) | exact HI189.out)), fun h0_ => absurd ((hoff 27 (by kernel_rfl)).symm.trans h0_) (by decide), fun h0_ => absurd ((hoff 27 (by kernel_rfl)).symm.trans h0_) (by decide), fun h0_ => absurd ((hoff 29 (by kernel_rfl)).symm.trans h0_) (by decide), Q_X9_, Q_X20_, fun h0_ => absurd ((hoff 30 (by kernel_rfl)).symm.trans h0_) (by decide)⟩
                refine steps_cons ?_ ?_
                · rintro b a w' ⟨v200, adz_v200, v216, adz_v216, v229, adz_v229, m9_, m20_, m30_, ha, Q_HI189, Q_HB, Q_HI189_e1, Q_HI189_e3, Q_HI189_e5, Q_HO201, Q_HA_HO201, Q_HI189_e8, Q_HI189_e12, Q_HI189_e14, Q_HI189_e16, Q_HO217, Q_HA_HO217, Q_HI189_e19, Q_HI189_e23, Q_HI189_e26, Q_HO230, Q_HA_HO230, Q_HI189_e29, Q_X9_, Q_X20_, Q_X30_⟩ hb_ hon hoff
                  refine ⟨_, rfl, fun K hK => ?_⟩
                  have e32 : a.tmps[32]? = some (.int .i64 (wrap64 (1 + t222))) := by rw [ha]; exact putSel_on (e := (24, 32, .int .i64 (wrap64 (1 + t222)))) 15 rfl rfl (hon 24 (by kernel_rfl)) rfl
                  have e34 : a.tmps[34]? = some (.int .i64 t225) := by rw [ha]; exact putSel_on (e := (26, 34, .int .i64 t225)) 16 rfl rfl (hon 26 (by kernel_rfl)) rfl
                  replace ha := Aside0.mk ha
                  have HB := Aside0.mk Q_HB
                  refine Kd.R_lit_step (Kd.int .i64) _ 3 ?hg (N := 35) ?hd (xs := ([wrap64 (1 + t222), 0, 17, t225] : List Int)) (inner := [.int .i64 (wrap64 (1 + t222)), .int .i64 0, .int .i64 17, .int .i64 t225]) (ok := fun _ => True) (okp := fun _ => True) ?hr ?hp (fun _ hk => hk) trivial (Below.refl _ _) (Nat.le_refl _) (by simp) ?_; (case hd => rfl); (case hg => rfl); (case hr => first | (go_simp; done) | (go_simp; rfl)); (case hp => exact (Reps.one (show Kd.M (Kd.int .i64) _ _ _ (wrap64 (1 + t222)) [.int .i64 (wrap64 (1 + t222))] from rfl) (Reps.one (show Kd.M (Kd.int .i64) _ _ _ 0 [.int .i64 0] from rfl) (Reps.one (show Kd.M (Kd.int .i64) _ _ _ 17 [.int .i64 17] from rfl) (Reps.one (show Kd.M (Kd.int .i64) _ _ _ t225 [.int .i64 t225] from rfl) (Reps.none _ _))))))
                  intro v229 w33 ho34 hb hg_ hnew_
                  clear hg_ hnew_
                  (first | rw [← Ny228.out] at ho34 | (simp only [Int.reduceToNat] at ho34; rw [← Ny228.out] at ho34))
                  have n0_ := Aside0.mk (Kd.R_lower ho34 (below_size (by repeat (first | (with_reducible first | exact HB.out | apply below_alloc | apply pw_below_drewN | apply below_drew1) | exact HB.out))))
                  have n2_ := Aside0.mk (below_step (by repeat (first | (with_reducible first | exact HB.out | apply below_alloc | apply pw_below_drewN | apply below_drew1) | exact HB.out)) hb)
                  have z_HO201 := fun (h0_ : b 6 = true) => (show Kd.R (Kd.int .i64) 3 w33 w.heap.size (fun _ => True) v200 y199 from by first | exact (Kd.R_elder' (by (with_reducible repeat (first | apply Kd.R_alloc | apply Kd.R_drewN | apply Kd.R_drew)); exact (Q_HO201 h0_)) (Kd.R_base ho34) hb) | exact Kd.R_mono (Kd.R_elder' (by (with_reducible repeat (first | apply Kd.R_alloc | apply Kd.R_drewN | apply Kd.R_drew)); exact (Q_HO201 h0_)) (Kd.R_base ho34) hb) (fun _ h_ => by first | trivial | exact h_ | exact h_.1))
                  have z_HO217 := fun (h0_ : b 17 = true) => (show Kd.R (Kd.int .i64) 3 w33 w.heap.size (fun _ => True) v216 y215 from by first | exact (Kd.R_elder' (by (with_reducible repeat (first | apply Kd.R_alloc | apply Kd.R_drewN | apply Kd.R_drew)); exact (Q_HO217 h0_)) (Kd.R_base ho34) hb) | exact Kd.R_mono (Kd.R_elder' (by (with_reducible repeat (first | apply Kd.R_alloc | apply Kd.R_drewN | apply Kd.R_drew)); exact (Q_HO217 h0_)) (Kd.R_base ho34) hb) (fun _ h_ => by first | trivial | exact h_ | exact h_.1))
                  have z_HI189_e26 := fun (h0_ : b 26 = true) (h1_ : b 29 = false) => (show IsS64 w w33 g189 t186 t226 t227 from by first | exact (IsS64.below (by repeat (first | (with_reducible first | exact (Q_HI189_e26 h0_ h1_) | apply IsS64.alloc | apply IsS64.drewN | apply IsS64.drew | apply IsS64.set_1 | apply IsS64.set_2) | exact (Q_HI189_e26 h0_ h1_))) hb))
                  have z_HI189_e29 := fun (h0_ : b 29 = true) => (show IsS64 w w33 g189 t186 t232 t233 from by first | exact (IsS64.below (by repeat (first | (with_reducible first | exact (Q_HI189_e29 h0_) | apply IsS64.alloc | apply IsS64.drewN | apply IsS64.drew | apply IsS64.set_1 | apply IsS64.set_2) | exact (Q_HI189_e29 h0_))) hb))
                  clear HB
                  have HO230 := n0_
                  have HB := n2_
                  clear n0_ n2_
                  clear hb ho34
                  obtain ⟨Ao35, co35, eo35⟩ := Kd.R_slice HO230.out
                  subst eo35
                  obtain ⟨ado35, fo35, _⟩ := Kd.at_int (Kd.R_reads' HO230.out).2.2 0 (by decide) (by rw [Ny228.out]; simp)
                  cases fo35
                  refine hK.out _ _ ⟨v200, adz_v200, v216, adz_v216, .slice (some ado35) y228.length co35, ado35, m9_, m20_, m30_, (by rw [ha.out]; exact putSel_upk 17 hb_ rfl rfl rfl), fun h0_ => absurd ((hon 1 (by kernel_rfl)).symm.trans h0_) (by decide), (by repeat (first | (with_reducible first | exact HB.out | apply below_alloc | apply pw_below_drewN | apply below_drew1) | exact HB.out)), fun _ h1_ => absurd ((hon 3 (by kernel_rfl)).symm.trans h1_) (by decide), fun _ h1_ => absurd ((hon 5 (by kernel_rfl)).symm.trans h1_) (by decide), fun _ h1_ => absurd ((hon 8 (by kernel_rfl)).symm.trans h1_) (by decide), z_HO201, Q_HA_HO201, fun _ h1_ => absurd ((hon 12 (by kernel_rfl)).symm.trans h1_) (by decide), fun _ h1_ => absurd ((hon 14 (by kernel_rfl)).symm.trans h1_) (by decide), fun _ h1_ => absurd ((hon 16 (by kernel_rfl)).symm.trans h1_) (by decide), fun _ h1_ => absurd ((hon 19 (by kernel_rfl)).symm.trans h1_) (by decide), z_HO217, Q_HA_HO217, fun _ h1_ => absurd ((hon 23 (by kernel_rfl)).symm.trans h1_) (by decide), fun _ h1_ => absurd ((hon 26 (by kernel_rfl)).symm.trans h1_) (by decide), z_HI189_e26, fun _ => (by (with_reducible repeat (first | apply Kd.R_alloc | apply Kd.R_drewN | apply Kd.R_drew)); exact HO230.out), fun _ => ⟨_, rfl⟩, z_HI189_e29, Q_X9_, Q_X20_, fun h0_ => absurd ((hoff 30 (by kernel_rfl)).symm.trans h0_) (by decide)⟩
                refine steps_cons ?_ ?_
                · rintro b a w' ⟨v200, adz_v200, v216, adz_v216, v229, adz_v229, m9_, m20_, m30_, ha, Q_HI189, Q_HB, Q_HI189_e1, Q_HI189_e3, Q_HI189_e5, Q_HO201, Q_HA_HO201, Q_HI189_e8, Q_HI189_e12, Q_HI189_e14, Q_HI189_e16, Q_HO217, Q_HA_HO217, Q_HI189_e19, Q_HI189_e23, Q_HI189_e26, Q_HO230, Q_HA_HO230, Q_HI189_e29, Q_X9_, Q_X20_, Q_X30_⟩ hb_ hon hoff
                  refine ⟨_, rfl, fun K hK => ?_⟩
                  have e36 : a.tmps[36]? = some (.pointer (some ⟨g189, 0, none⟩)) := by rw [ha]; exact (putSel_off rfl).trans rfl
                  replace ha := Aside0.mk ha
                  have HB := Aside0.mk Q_HB
                  have HI189 := Aside0.mk (Q_HI189_e26 (hon 26 (by kernel_rfl)) hb_)
                  refine goes_ Try.func33 (by kernel_rfl) rfl #[.pointer (some ⟨g189, 0, none⟩), .int .i64 4] (by rfl) rfl rfl (by first | (simp only [List.map_toArray, List.map_cons, List.map_nil, Act.eval, Array.getD_eq_getD_getElem?, Option.getD_some, e36]; done) | (simp only [List.map_toArray, List.map_cons, List.map_nil, Act.eval, Array.getD_eq_getD_getElem?, Option.getD_some, e36]; rfl)) ?_
                  with_reducible refine (spec_l01Cur_pick.calls g189 t186 t226 t227 4 t231 t232 t233 w _ ?side1 ?side2 A17.out).mono ?_
                  (case side1 => repeat (first | (with_reducible first | exact HI189.out | apply IsS64.alloc | apply IsS64.drewN | apply IsS64.drew | apply IsS64.set_1 | apply IsS64.set_2) | exact HI189.out))
                  (case side2 => repeat (first | (with_reducible first | exact HB.out | apply below_alloc | apply pw_below_drewN | apply below_drew1 | refine below_set ?_ (IsS64.ge HI189.out)) | exact HB.out))
                  rintro e w33 ⟨rfl, hi, hb, hk⟩
                  refine ⟨_, rfl, ?_⟩
                  have n0_ := Aside0.mk (hb)
                  have n1_ := Aside0.mk (hi)
                  have z_HO201 := fun (h0_ : b 6 = true) => (show Kd.R (Kd.int .i64) 3 w33 w.heap.size (fun _ => True) v200 y199 from by first | exact (Kd.R_mono (Kd.R_keep (IsS64.apart (show IsS64 w _ g189 t186 t226 t227 from by repeat (first | (with_reducible first | exact HI189.out | apply IsS64.alloc | apply IsS64.drewN | apply IsS64.drew | apply IsS64.set_1 | apply IsS64.set_2) | exact HI189.out)) (by (with_reducible repeat (first | apply Kd.R_alloc | apply Kd.R_drewN | apply Kd.R_drew)); exact (Q_HO201 h0_)) (by decide)) hk (fun _ h => h.2)) (fun _ h => h.1)) | exact Kd.R_mono (Kd.R_mono (Kd.R_keep (IsS64.apart (show IsS64 w _ g189 t186 t226 t227 from by repeat (first | (with_reducible first | exact HI189.out | apply IsS64.alloc | apply IsS64.drewN | apply IsS64.drew | apply IsS64.set_1 | apply IsS64.set_2) | exact HI189.out)) (by (with_reducible repeat (first | apply Kd.R_alloc | apply Kd.R_drewN | apply Kd.R_drew)); exact (Q_HO201 h0_)) (by decide)) hk (fun _ h => h.2)) (fun _ h => h.1)) (fun _ h_ => by first | trivial | exact h_ | exact h_.1))
                  have z_HO217 := fun (h0_ : b 17 = true) => (show Kd.R (Kd.int .i64) 3 w33 w.heap.size (fun _ => True) v216 y215 from by first | exact (Kd.R_mono (Kd.R_keep (IsS64.apart (show IsS64 w _ g189 t186 t226 t227 from by repeat (first | (with_reducible first | exact HI189.out | apply IsS64.alloc | apply IsS64.drewN | apply IsS64.drew | apply IsS64.set_1 | apply IsS64.set_2) | exact HI189.out)) (by (with_reducible repeat (first | apply Kd.R_alloc | apply Kd.R_drewN | apply Kd.R_drew)); exact (Q_HO217 h0_)) (by decide)) hk (fun _ h => h.2)) (fun _ h => h.1)) | exact Kd.R_mono (Kd.R_mono (Kd.R_keep (IsS64.apart (show IsS64 w _ g189 t186 t226 t227 from by repeat (first | (with_reducible first | exact HI189.out | apply IsS64.alloc | apply IsS64.drewN | apply IsS64.drew | apply IsS64.set_1 | apply IsS64.set_2) | exact HI189.out)) (by (with_reducible repeat (first | apply Kd.R_alloc | apply Kd.R_drewN | apply Kd.R_drew)); exact (Q_HO217 h0_)) (by decide)) hk (fun _ h => h.2)) (fun _ h => h.1)) (fun _ h_ => by first | trivial | exact h_ | exact h_.1))
                  have z_HO230 := fun (h0_ : b 27 = true) => (show Kd.R (Kd.int .i64) 3 w33 w.heap.size (fun _ => True) v229 y228 from by first | exact (Kd.R_mono (Kd.R_keep (IsS64.apart (show IsS64 w _ g189 t186 t226 t227 from by repeat (first | (with_reducible first | exact HI189.out | apply IsS64.alloc | apply IsS64.drewN | apply IsS64.drew | apply IsS64.set_1 | apply IsS64.set_2) | exact HI189.out)) (by (with_reducible repeat (first | apply Kd.R_alloc | apply Kd.R_drewN | apply Kd.R_drew)); exact (Q_HO230 h0_)) (by decide)) hk (fun _ h => h.2)) (fun _ h => h.1)) | exact Kd.R_mono (Kd.R_mono (Kd.R_keep (IsS64.apart (show IsS64 w _ g189 t186 t226 t227 from by repeat (first | (with_reducible first | exact HI189.out | apply IsS64.alloc | apply IsS64.drewN | apply IsS64.drew | apply IsS64.set_1 | apply IsS64.set_2) | exact HI189.out)) (by (with_reducible repeat (first | apply Kd.R_alloc | apply Kd.R_drewN | apply Kd.R_drew)); exact (Q_HO230 h0_)) (by decide)) hk (fun _ h => h.2)) (fun _ h => h.1)) (fun _ h_ => by first | trivial | exact h_ | exact h_.1))
                  clear HB
                  clear HI189
                  have HB := n0_
                  have HI189 := n1_
                  clear n0_ n1_
                  (try clear hb)
                  (try clear hb2)
                  (try clear hk)
                  (try clear hi)
                  refine hK.out _ _ ⟨v200, adz_v200, v216, adz_v216, v229, adz_v229, m9_, m20_, m30_, (by rw [ha.out]; exact putSel_upk 18 hb_ rfl rfl rfl), fun h0_ => absurd ((hon 1 (by kernel_rfl)).symm.trans h0_) (by decide), (by repeat (first | (with_reducible first | exact HB.out | apply below_alloc | apply pw_below_drewN | apply below_drew1 | refine below_set ?_ (IsS64.ge HI189.out)) | exact HB.out)), fun _ h1_ => absurd ((hon 3 (by kernel_rfl)).symm.trans h1_) (by decide), fun _ h1_ => absurd ((hon 5 (by kernel_rfl)).symm.trans h1_) (by decide), fun _ h1_ => absurd ((hon 8 (by kernel_rfl)).symm.trans h1_) (by decide), z_HO201, Q_HA_HO201, fun _ h1_ => absurd ((hon 12 (by kernel_rfl)).symm.trans h1_) (by decide), fun _ h1_ => absurd ((hon 14 (by kernel_rfl)).symm.trans h1_) (by decide), fun _ h1_ => absurd ((hon 16 (by kernel_rfl)).symm.trans h1_) (by decide), fun _ h1_ => absurd ((hon 19 (by kernel_rfl)).symm.trans h1_) (by decide), z_HO217, Q_HA_HO217, fun _ h1_ => absurd ((hon 23 (by kernel_rfl)).symm.trans h1_) (by decide), fun _ h1_ => absurd ((hon 26 (by kernel_rfl)).symm.trans h1_) (by decide), fun _ h1_ => absurd ((up_self b 29).symm.trans h1_) (by decide), z_HO230, Q_HA_HO230, fun _ => (by repeat (first | (with_reducible first | exact HI189.out | apply IsS64.alloc | apply IsS64.drewN | apply IsS64.drew | apply IsS64.set_1 | apply IsS64.set_2) | exact HI189.out)), Q_X9_, Q_X20_, fun h0_ => absurd ((hoff 30 (by kernel_rfl)).symm.trans h0_) (by decide)⟩
                refine steps_cons ?_ ?_
                · rintro b a w' ⟨v200, adz_v200, v216, adz_v216, v229, adz_v229, m9_, m20_, m30_, ha, Q_HI189, Q_HB, Q_HI189_e1, Q_HI189_e3, Q_HI189_e5, Q_HO201, Q_HA_HO201, Q_HI189_e8, Q_HI189_e12, Q_HI189_e14, Q_HI189_e16, Q_HO217, Q_HA_HO217, Q_HI189_e19, Q_HI189_e23, Q_HI189_e26, Q_HO230, Q_HA_HO230, Q_HI189_e29, Q_X9_, Q_X20_, Q_X30_⟩ hb_ hon hoff
                  refine ⟨_, rfl, fun K hK => ?_⟩
                  have e35 : a.tmps[35]? = some (v229) := by rw [ha]; exact putSel_on (e := (27, 35, v229)) 17 rfl rfl (hon 27 (by kernel_rfl)) rfl
                  have e37 : a.tmps[37]? = some (.int .i64 t231) := by rw [ha]; exact putSel_on (e := (29, 37, .int .i64 t231)) 18 rfl rfl (hon 29 (by kernel_rfl)) rfl
                  replace ha := Aside0.mk ha
                  have HB := Aside0.mk Q_HB
                  have HO230 := Aside0.mk (Q_HO230 (hon 27 (by kernel_rfl)))
                  have HA_HO230 := Aside0.mk (Q_HA_HO230 (hon 27 (by kernel_rfl)))
                  have HI189 := Aside0.mk (Q_HI189_e29 (hon 29 (by kernel_rfl)))
                  obtain ⟨c_, hv_⟩ := HA_HO230.out
                  rw [hv_] at e35
                  refine value_ (w1 := w') (v := .pointer (some (adz_v229.add (t231).toNat))) (by rfl) rfl ?_ ?_
                  · go_simp
                    (try simp only [i64_w])
                    try rfl
                  refine hK.out _ _ ⟨v200, adz_v200, v216, adz_v216, v229, adz_v229, m9_, m20_, (.pointer (some (adz_v229.add (t231).toNat))), (by rw [ha.out]; exact putSel_upk 19 hb_ rfl rfl rfl), fun h0_ => absurd ((hon 1 (by kernel_rfl)).symm.trans h0_) (by decide), Q_HB, fun _ h1_ => absurd ((hon 3 (by kernel_rfl)).symm.trans h1_) (by decide), fun _ h1_ => absurd ((hon 5 (by kernel_rfl)).symm.trans h1_) (by decide), fun _ h1_ => absurd ((hon 8 (by kernel_rfl)).symm.trans h1_) (by decide), Q_HO201, Q_HA_HO201, fun _ h1_ => absurd ((hon 12 (by kernel_rfl)).symm.trans h1_) (by decide), fun _ h1_ => absurd ((hon 14 (by kernel_rfl)).symm.trans h1_) (by decide), fun _ h1_ => absurd ((hon 16 (by kernel_rfl)).symm.trans h1_) (by decide), fun _ h1_ => absurd ((hon 19 (by kernel_rfl)).symm.trans h1_) (by decide), Q_HO217, Q_HA_HO217, fun _ h1_ => absurd ((hon 23 (by kernel_rfl)).symm.trans h1_) (by decide), fun _ h1_ => absurd ((hon 26 (by kernel_rfl)).symm.trans h1_) (by decide), fun _ h1_ => absurd ((hon 29 (by kernel_rfl)).symm.trans h1_) (by decide), Q_HO230, Q_HA_HO230, Q_HI189_e29, Q_X9_, Q_X20_, fun _ => rfl⟩
                refine steps_cons ?_ ?_
                · rintro b a w' ⟨v200, adz_v200, v216, adz_v216, v229, adz_v229, m9_, m20_, m30_, ha, Q_HI189, Q_HB, Q_HI189_e1, Q_HI189_e3, Q_HI189_e5, Q_HO201, Q_HA_HO201, Q_HI189_e8, Q_HI189_e12, Q_HI189_e14, Q_HI189_e16, Q_HO217, Q_HA_HO217, Q_HI189_e19, Q_HI189_e23, Q_HI189_e26, Q_HO230, Q_HA_HO230, Q_HI189_e29, Q_X9_, Q_X20_, Q_X30_⟩ hb_ hon hoff
                  refine ⟨_, rfl, fun K hK => ?_⟩
                  have e38 : a.tmps[38]? = some (m30_) := by rw [ha]; exact putSel_on (e := (30, 38, m30_)) 19 rfl rfl (hon 30 (by kernel_rfl)) rfl
                  rw [Q_X30_ (hon 30 (by kernel_rfl))] at e38
                  replace ha := Aside0.mk ha
                  have HB := Aside0.mk Q_HB
                  have HO230 := Aside0.mk (Q_HO230 (hon 27 (by kernel_rfl)))
                  have HA_HO230 := Aside0.mk (Q_HA_HO230 (hon 27 (by kernel_rfl)))
                  have HI189 := Aside0.mk (Q_HI189_e29 (hon 29 (by kernel_rfl)))
                  obtain ⟨c_, hv_⟩ := HA_HO230.out
                  have hF_ := HO230.out
                  rw [hv_] at hF_
                  obtain ⟨ad_, ea_, hx_⟩ := Kd.at_int (Kd.R_reads' hF_).2.2 t231 (of_eq_true pi234) (of_eq_true qi234)
                  cases ea_
                  refine value_ (w1 := w') (v := .int .i64 (rd y228 t231)) (by rfl) rfl ?_ ?_
                  · go_simp
                    (try simp only [i64_w])
                    try rfl
                  refine hK.out _ _ ⟨v200, adz_v200, v216, adz_v216, v229, adz_v229, m9_, m20_, m30_, (by rw [ha.out]; exact putSel_upk 20 hb_ rfl rfl rfl), fun h0_ => absurd ((hon 1 (by kernel_rfl)).symm.trans h0_) (by decide), Q_HB, fun _ h1_ => absurd ((hon 3 (by kernel_rfl)).symm.trans h1_) (by decide), fun _ h1_ => absurd ((hon 5 (by kernel_rfl)).symm.trans h1_) (by decide), fun _ h1_ => absurd ((hon 8 (by kernel_rfl)).symm.trans h1_) (by decide), Q_HO201, Q_HA_HO201, fun _ h1_ => absurd ((hon 12 (by kernel_rfl)).symm.trans h1_) (by decide), fun _ h1_ => absurd ((hon 14 (by kernel_rfl)).symm.trans h1_) (by decide), fun _ h1_ => absurd ((hon 16 (by kernel_rfl)).symm.trans h1_) (by decide), fun _ h1_ => absurd ((hon 19 (by kernel_rfl)).symm.trans h1_) (by decide), Q_HO217, Q_HA_HO217, fun _ h1_ => absurd ((hon 23 (by kernel_rfl)).symm.trans h1_) (by decide), fun _ h1_ => absurd ((hon 26 (by kernel_rfl)).symm.trans h1_) (by decide), fun _ h1_ => absurd ((hon 29 (by kernel_rfl)).symm.trans h1_) (by decide), Q_HO230, Q_HA_HO230, Q_HI189_e29, Q_X9_, Q_X20_, Q_X30_⟩
                refine steps_cons ?_ ?_
                · rintro b a w' ⟨v200, adz_v200, v216, adz_v216, v229, adz_v229, m9_, m20_, m30_, ha, Q_HI189, Q_HB, Q_HI189_e1, Q_HI189_e3, Q_HI189_e5, Q_HO201, Q_HA_HO201, Q_HI189_e8, Q_HI189_e12, Q_HI189_e14, Q_HI189_e16, Q_HO217, Q_HA_HO217, Q_HI189_e19, Q_HI189_e23, Q_HI189_e26, Q_HO230, Q_HA_HO230, Q_HI189_e29, Q_X9_, Q_X20_, Q_X30_⟩ hb_ hon hoff
                  refine ⟨_, rfl, fun K hK => ?_⟩
                  have e18 : a.tmps[18]? = some (.int .i64 (rd y199 t202)) := by rw [ha]; exact putSel_on (e := (10, 18, .int .i64 (rd y199 t202))) 6 rfl rfl (hon 10 (by kernel_rfl)) rfl
                  replace ha := Aside0.mk ha
                  have HB := Aside0.mk Q_HB
                  have HO201 := Aside0.mk (Q_HO201 (hon 6 (by kernel_rfl)))
                  have HA_HO201 := Aside0.mk (Q_HA_HO201 (hon 6 (by kernel_rfl)))
                  have HI189 := Aside0.mk (Q_HI189_e29 (hon 29 (by kernel_rfl)))
                  refine value_ (w1 := w') (v := .int .i64 (rd y199 t202)) (by rfl) rfl ?_ ?_
                  · go_simp
                    (try simp only [i64_w])
                    try rfl
                  refine hK.out _ _ ⟨v200, adz_v200, v216, adz_v216, v229, adz_v229, m9_, m20_, m30_, (by rw [ha.out]; exact putSel_upk 21 hb_ rfl rfl rfl), fun h0_ => absurd ((hon 1 (by kernel_rfl)).symm.trans h0_) (by decide), Q_HB, fun _ h1_ => absurd ((hon 3 (by kernel_rfl)).symm.trans h1_) (by decide), fun _ h1_ => absurd ((hon 5 (by kernel_rfl)).symm.trans h1_) (by decide), fun _ h1_ => absurd ((hon 8 (by kernel_rfl)).symm.trans h1_) (by decide), Q_HO201, Q_HA_HO201, fun _ h1_ => absurd ((hon 12 (by kernel_rfl)).symm.trans h1_) (by decide), fun _ h1_ => absurd ((hon 14 (by kernel_rfl)).symm.trans h1_) (by decide), fun _ h1_ => absurd ((hon 16 (by kernel_rfl)).symm.trans h1_) (by decide), fun _ h1_ => absurd ((hon 19 (by kernel_rfl)).symm.trans h1_) (by decide), Q_HO217, Q_HA_HO217, fun _ h1_ => absurd ((hon 23 (by kernel_rfl)).symm.trans h1_) (by decide), fun _ h1_ => absurd ((hon 26 (by kernel_rfl)).symm.trans h1_) (by decide), fun _ h1_ => absurd ((hon 29 (by kernel_rfl)).symm.trans h1_) (by decide), Q_HO230, Q_HA_HO230, Q_HI189_e29, Q_X9_, Q_X20_, Q_X30_⟩
                refine steps_cons ?_ ?_
                · rintro b a w' ⟨v200, adz_v200, v216, adz_v216, v229, adz_v229, m9_, m20_, m30_, ha, Q_HI189, Q_HB, Q_HI189_e1, Q_HI189_e3, Q_HI189_e5, Q_HO201, Q_HA_HO201, Q_HI189_e8, Q_HI189_e12, Q_HI189_e14, Q_HI189_e16, Q_HO217, Q_HA_HO217, Q_HI189_e19, Q_HI189_e23, Q_HI189_e26, Q_HO230, Q_HA_HO230, Q_HI189_e29, Q_X9_, Q_X20_, Q_X30_⟩ hb_ hon hoff
                  refine ⟨_, rfl, fun K hK => ?_⟩
                  have e29 : a.tmps[29]? = some (.int .i64 (rd y215 t218)) := by rw [ha]; exact putSel_on (e := (21, 29, .int .i64 (rd y215 t218))) 13 rfl rfl (hon 21 (by kernel_rfl)) rfl
                  replace ha := Aside0.mk ha
                  have HB := Aside0.mk Q_HB
                  have HO201 := Aside0.mk (Q_HO201 (hon 6 (by kernel_rfl)))
                  have HA_HO201 := Aside0.mk (Q_HA_HO201 (hon 6 (by kernel_rfl)))
                  have HO217 := Aside0.mk (Q_HO217 (hon 17 (by kernel_rfl)))
                  have HA_HO217 := Aside0.mk (Q_HA_HO217 (hon 17 (by kernel_rfl)))
                  have HI189 := Aside0.mk (Q_HI189_e29 (hon 29 (by kernel_rfl)))
                  refine value_ (w1 := w') (v := .int .i64 (rd y215 t218)) (by rfl) rfl ?_ ?_
                  · go_simp
                    (try simp only [i64_w])
                    try rfl
                  refine hK.out _ _ ⟨v200, adz_v200, v216, adz_v216, v229, adz_v229, m9_, m20_, m30_, (by rw [ha.out]; exact putSel_upk 22 hb_ rfl rfl rfl), fun h0_ => absurd ((hon 1 (by kernel_rfl)).symm.trans h0_) (by decide), Q_HB, fun _ h1_ => absurd ((hon 3 (by kernel_rfl)).symm.trans h1_) (by decide), fun _ h1_ => absurd ((hon 5 (by kernel_rfl)).symm.trans h1_) (by decide), fun _ h1_ => absurd ((hon 8 (by kernel_rfl)).symm.trans h1_) (by decide), Q_HO201, Q_HA_HO201, fun _ h1_ => absurd ((hon 12 (by kernel_rfl)).symm.trans h1_) (by decide), fun _ h1_ => absurd ((hon 14 (by kernel_rfl)).symm.trans h1_) (by decide), fun _ h1_ => absurd ((hon 16 (by kernel_rfl)).symm.trans h1_) (by decide), fun _ h1_ => absurd ((hon 19 (by kernel_rfl)).symm.trans h1_) (by decide), Q_HO217, Q_HA_HO217, fun _ h1_ => absurd ((hon 23 (by kernel_rfl)).symm.trans h1_) (by decide), fun _ h1_ => absurd ((hon 26 (by kernel_rfl)).symm.trans h1_) (by decide), fun _ h1_ => absurd ((hon 29 (by kernel_rfl)).symm.trans h1_) (by decide), Q_HO230, Q_HA_HO230, Q_HI189_e29, Q_X9_, Q_X20_, Q_X30_⟩
                refine steps_cons ?_ ?_
                · rintro b a w' ⟨v200, adz_v200, v216, adz_v216, v229, adz_v229, m9_, m20_, m30_, ha, Q_HI189, Q_HB, Q_HI189_e1, Q_HI189_e3, Q_HI189_e5, Q_HO201, Q_HA_HO201, Q_HI189_e8, Q_HI189_e12, Q_HI189_e14, Q_HI189_e16, Q_HO217, Q_HA_HO217, Q_HI189_e19, Q_HI189_e23, Q_HI189_e26, Q_HO230, Q_HA_HO230, Q_HI189_e29, Q_X9_, Q_X20_, Q_X30_⟩ hb_ hon hoff
                  refine ⟨_, rfl, fun K hK => ?_⟩
                  have e39 : a.tmps[39]? = some (.int .i64 (rd y228 t231)) := by rw [ha]; exact putSel_on (e := (31, 39, .int .i64 (rd y228 t231))) 20 rfl rfl (hon 31 (by kernel_rfl)) rfl
                  replace ha := Aside0.mk ha
                  have HB := Aside0.mk Q_HB
                  have HO201 := Aside0.mk (Q_HO201 (hon 6 (by kernel_rfl)))
                  have HA_HO201 := Aside0.mk (Q_HA_HO201 (hon 6 (by kernel_rfl)))
                  have HO217 := Aside0.mk (Q_HO217 (hon 17 (by kernel_rfl)))
                  have HA_HO217 := Aside0.mk (Q_HA_HO217 (hon 17 (by kernel_rfl)))
                  have HO230 := Aside0.mk (Q_HO230 (hon 27 (by kernel_rfl)))
                  have HA_HO230 := Aside0.mk (Q_HA_HO230 (hon 27 (by kernel_rfl)))
                  have HI189 := Aside0.mk (Q_HI189_e29 (hon 29 (by kernel_rfl)))
                  refine value_ (w1 := w') (v := .int .i64 (rd y228 t231)) (by rfl) rfl ?_ ?_
                  · go_simp
                    (try simp only [i64_w])
                    try rfl
                  refine hK.out _ _ ⟨v200, adz_v200, v216, adz_v216, v229, adz_v229, m9_, m20_, m30_, (by rw [ha.out]; exact putSel_upk 23 hb_ rfl rfl rfl), fun h0_ => absurd ((hon 1 (by kernel_rfl)).symm.trans h0_) (by decide), Q_HB, fun _ h1_ => absurd ((hon 3 (by kernel_rfl)).symm.trans h1_) (by decide), fun _ h1_ => absurd ((hon 5 (by kernel_rfl)).symm.trans h1_) (by decide), fun _ h1_ => absurd ((hon 8 (by kernel_rfl)).symm.trans h1_) (by decide), Q_HO201, Q_HA_HO201, fun _ h1_ => absurd ((hon 12 (by kernel_rfl)).symm.trans h1_) (by decide), fun _ h1_ => absurd ((hon 14 (by kernel_rfl)).symm.trans h1_) (by decide), fun _ h1_ => absurd ((hon 16 (by kernel_rfl)).symm.trans h1_) (by decide), fun _ h1_ => absurd ((hon 19 (by kernel_rfl)).symm.trans h1_) (by decide), Q_HO217, Q_HA_HO217, fun _ h1_ => absurd ((hon 23 (by kernel_rfl)).symm.trans h1_) (by decide), fun _ h1_ => absurd ((hon 26 (by kernel_rfl)).symm.trans h1_) (by decide), fun _ h1_ => absurd ((hon 29 (by kernel_rfl)).symm.trans h1_) (by decide), Q_HO230, Q_HA_HO230, Q_HI189_e29, Q_X9_, Q_X20_, Q_X30_⟩
                exact steps_nil
              rintro b a w42 hall ⟨v200, adz_v200, v216, adz_v216, v229, adz_v229, m9_, m20_, m30_, ha, Q_HI189, Q_HB, Q_HI189_e1, Q_HI189_e3, Q_HI189_e5, Q_HO201, Q_HA_HO201, Q_HI189_e8, Q_HI189_e12, Q_HI189_e14, Q_HI189_e16, Q_HO217, Q_HA_HO217, Q_HI189_e19, Q_HI189_e23, Q_HI189_e26, Q_HO230, Q_HA_HO230, Q_HI189_e29, Q_X9_, Q_X20_, Q_X30_⟩
              clear HB HI189
              have hb1_ := hall 1 (by kernel_rfl)
              have hb3_ := hall 3 (by kernel_rfl)
              have hb5_ := hall 5 (by kernel_rfl)
              have hb6_ := hall 6 (by kernel_rfl)
              have hb8_ := hall 8 (by kernel_rfl)
              have hb9_ := hall 9 (by kernel_rfl)
              have hb10_ := hall 10 (by kernel_rfl)
              have hb12_ := hall 12 (by kernel_rfl)
              have hb14_ := hall 14 (by kernel_rfl)
              have hb16_ := hall 16 (by kernel_rfl)
              have hb17_ := hall 17 (by kernel_rfl)
              have hb19_ := hall 19 (by kernel_rfl)
              have hb20_ := hall 20 (by kernel_rfl)
              have hb21_ := hall 21 (by kernel_rfl)
              have hb23_ := hall 23 (by kernel_rfl)
              have hb24_ := hall 24 (by kernel_rfl)
              have hb26_ := hall 26 (by kernel_rfl)
              have hb27_ := hall 27 (by kernel_rfl)
              have hb29_ := hall 29 (by kernel_rfl)
              have hb30_ := hall 30 (by kernel_rfl)
              have hb31_ := hall 31 (by kernel_rfl)
              have hb32_ := hall 32 (by kernel_rfl)
              have hb33_ := hall 33 (by kernel_rfl)
              have hb34_ := hall 34 (by kernel_rfl)
              subst ha
              obtain rfl := Q_X9_ hb9_
              obtain rfl := Q_X20_ hb20_
              obtain rfl := Q_X30_ hb30_
              simp only [putSel, hb1_, hb3_, hb5_, hb6_, hb8_, hb9_, hb10_, hb12_, hb14_, hb16_, hb17_, hb19_, hb20_, hb21_, hb23_, hb24_, hb26_, hb27_, hb29_, hb30_, hb31_, hb32_, hb33_, hb34_, if_true, Act.put, List.setIfInBounds_toArray, List.set_cons_zero, List.set_cons_succ]
              clear Q_HI189
              have HB := Aside0.mk Q_HB
              clear Q_HB
              clear Q_HI189_e1
              clear Q_HI189_e3
              clear Q_HI189_e5
              have HO201 := Aside0.mk (Q_HO201 hb6_)
              clear Q_HO201
              have HA_HO201 := Aside0.mk (Q_HA_HO201 hb6_)
              clear Q_HA_HO201
              clear Q_HI189_e8
              clear Q_HI189_e12
              clear Q_HI189_e14
              clear Q_HI189_e16
              have HO217 := Aside0.mk (Q_HO217 hb17_)
              clear Q_HO217
              have HA_HO217 := Aside0.mk (Q_HA_HO217 hb17_)
              clear Q_HA_HO217
              clear Q_HI189_e19
              clear Q_HI189_e23
              clear Q_HI189_e26
              have HO230 := Aside0.mk (Q_HO230 hb27_)
              clear Q_HO230
              have HA_HO230 := Aside0.mk (Q_HA_HO230 hb27_)
              clear Q_HA_HO230
              have HI189 := Aside0.mk (Q_HI189_e29 hb29_)
              clear Q_HI189_e29
              clear hall hb1_ hb3_ hb5_ hb6_ hb8_ hb9_ hb10_ hb12_ hb14_ hb16_ hb17_ hb19_ hb20_ hb21_ hb23_ hb24_ hb26_ hb27_ hb29_ hb30_ hb31_ hb32_ hb33_ hb34_
              obtain ⟨co43, eo43⟩ := HA_HO201.out
              clear HA_HO201
              subst eo43
              obtain ⟨co44, eo44⟩ := HA_HO217.out
              clear HA_HO217
              subst eo44
              obtain ⟨co45, eo45⟩ := HA_HO230.out
              clear HA_HO230
              subst eo45
              try go_wp2
              go_ret3
              exact ⟨by first | rfl | (simp [errW_none, errW_some] <;> rfl) | (simp [*, errW_none, errW_some] <;> rfl), by repeat (first | (with_reducible first | exact HB.out | apply below_alloc | apply pw_below_drewN | apply below_drew1 | refine below_set ?_ (IsS64.ge HI189.out)) | exact HB.out)⟩
            · rw [if_neg c19] at H
              exact absurd H (by simp)
          · rw [if_neg c18] at H
            exact absurd H (by simp)
        · rw [if_neg c14] at H
          exact absurd H (by simp)
      · rw [if_neg c13] at H
        exact absurd H (by simp)
    · rw [if_neg c8] at H
      exact absurd H (by simp)
  · rw [if_neg c7] at H
    exact absurd H (by simp)

end Go.Proofs.Ytokgcjkdbhnlbaa.PA1
