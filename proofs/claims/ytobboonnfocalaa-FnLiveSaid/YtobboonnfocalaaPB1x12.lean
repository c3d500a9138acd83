/- What functions of the program compute, each as a Lean function, and that the run comes to just that. Conditions: none. (Laid by this session's own program.) -/
import Derived.Test.YtobboonnfocalaaT
import Derived.Test.YtobboonnfocalaaT2
import Derived.Test.YtobboonnfocalaaPB1x0
import Derived.Test.YtobboonnfocalaaPB1x9
namespace Go.Proofs.Ytobboonnfocalaa.PB1
open Go.RowKit Go.Proofs.YtobboonnfocalaaW.PrintWords Go.Proofs.YtobboonnfocalaaW.PrintLast Go.Proofs.YtobboonnfocalaaW.PrintMore Go.Proofs.Ytobboonnfocalaa.T
attribute [local go_sem] max2_int min2_int max_two min_two max_three min_three max_four min_four   -- for this text's walks alone
set_option linter.unusedVariables false
set_option linter.unusedSimpArgs false

/-! ### spec_LiveAdd: function 12 -/
def spec_LiveAdd.l0 : Nat → List (S37) → Int → Int → Int → Int → Option ((List (S37)) × Bool)
  | 0, _, _, _, _, _ => none
  | k + 1, x0, x1, x8, x360000, x360001 => if x8 < (x0.length : Int) then (if 0 ≤ x8 then (if ((rd_T37 x0 x8).f0) < x360000 then (spec_LiveAdd.l0 k x0 x1 (wrap64 (x8 + 1)) x360000 x360001) else ((some (([] : List (S37)) : List (S37))).bind fun y362 => (if x8 ≤ (x0.length : Int) then ((some (x0.take (x8 : Int).toNat : List (S37))).bind fun y365 => (if y362.length + y365.length < 8796093022208 then ((some (y362 ++ y365 : List (S37))).bind fun y369 => ((some (([(⟨x360000, x360001⟩ : S37)] : List (S37)) : List (S37))).bind fun y372 => (if y369.length + y372.length < 8796093022208 then ((some (y369 ++ y372 : List (S37))).bind fun y375 => ((some (x0.drop (x8 : Int).toNat : List (S37))).bind fun y378 => (if y375.length + y378.length < 8796093022208 then ((some (y375 ++ y378 : List (S37))).bind fun y382 => ((spec_LiveOk.f k y382 x1).bind fun t385 => (if t385 = true then (some (y382, true)) else (some (([] : List (S37)), false))))) else (none)))) else (none)))) else (none))) else (none)))) else (none)) else ((some (([] : List (S37)) : List (S37))).bind fun y386 => (if 0 ≤ x8 then (if x8 ≤ (x0.length : Int) then ((some (x0.take (x8 : Int).toNat : List (S37))).bind fun y389 => (if y386.length + y389.length < 8796093022208 then ((some (y386 ++ y389 : List (S37))).bind fun y393 => ((some (([(⟨x360000, x360001⟩ : S37)] : List (S37)) : List (S37))).bind fun y396 => (if y393.length + y396.length < 8796093022208 then ((some (y393 ++ y396 : List (S37))).bind fun y399 => ((some (x0.drop (x8 : Int).toNat : List (S37))).bind fun y402 => (if y399.length + y402.length < 8796093022208 then ((some (y399 ++ y402 : List (S37))).bind fun y406 => ((spec_LiveOk.f k y406 x1).bind fun t409 => (if t409 = true then (some (y406, true)) else (some (([] : List (S37)), false))))) else (none)))) else (none)))) else (none))) else (none)) else (none)))
def spec_LiveAdd.f (k : Nat) (l0 : List (S37)) (a1 : Int) (a2_0 : Int) (a2_1 : Int) : Option ((List (S37)) × Bool) := (spec_LiveOk.f k l0 a1).bind fun t360 => (if t360 = true then (spec_LiveAdd.l0 k l0 a1 0 a2_0 a2_1) else (some (([] : List (S37)), false)))
theorem spec_LiveAdd.mono_l : ∀ k, (∀ y0 y1 y2 y3 y4, LeO (spec_LiveAdd.l0 k y0 y1 y2 y3 y4) (spec_LiveAdd.l0 (k + 1) y0 y1 y2 y3 y4))
  | 0 => fun _ _ _ _ _ r h => by simp [spec_LiveAdd.l0] at h
  | k + 1 => by
    have ih0 := spec_LiveAdd.mono_l k
    · intro y0 y1 y2 y3 y4
      unfold spec_LiveAdd.l0
      repeat' first
        | (with_reducible first | exact ih0 .. | exact spec_LiveOk.mono .. | exact LeO.refl _ | exact LeO.none _ | refine LeO.ite ?_ ?_ | refine LeO.bind ?_ (fun _ => ?_))
        | exact LeO.none _ | refine LeO.ite ?_ ?_ | refine LeO.bind ?_ (fun _ => ?_)
theorem spec_LiveAdd.mono : ∀ a0 a1 a2 a3 k, LeO (spec_LiveAdd.f k a0 a1 a2 a3) (spec_LiveAdd.f (k + 1) a0 a1 a2 a3) := by
  intro a0 a1 a2 a3 k
  have ih0 := spec_LiveAdd.mono_l k
  unfold spec_LiveAdd.f
  repeat' first
    | (with_reducible first | exact ih0 .. | exact spec_LiveOk.mono .. | exact LeO.refl _ | exact LeO.none _ | refine LeO.ite ?_ ?_ | refine LeO.bind ?_ (fun _ => ?_))
    | exact LeO.none _ | refine LeO.ite ?_ ?_ | refine LeO.bind ?_ (fun _ => ?_)
def spec_LiveAdd.T4 : Bool × List (List Nat × List Nat) := (true, [([], []), ([], []), ([1], [1]), ([0, 2], [0, 2]), ([3], [3]), ([4], [4]), ([4], [4]), ([5, 6, 4], [4, 5, 6]), ([7, 4], [4, 7]), ([8, 4], [4, 8]), ([4], [4]), ([10, 4], [4, 10]), ([9, 11, 4], [4, 9, 11]), ([4, 12], [4, 12])])
def spec_LiveAdd.B4 : List Nat := [0, 0, 2, 7, 15, 31, 31, 127, 255, 511, 31, 1055, 4095, 8191]
theorem spec_LiveAdd.tab4 : rtab .any (opsOf Try.f12 4) = spec_LiveAdd.T4 := kr
theorem spec_LiveAdd.bits4 : waitsOk spec_LiveAdd.T4.2 spec_LiveAdd.B4 = true := kr
def spec_LiveAdd.T6 : Bool × List (List Nat × List Nat) := (true, [([], []), ([], []), ([], []), ([1, 2], [1, 2]), ([0, 3], [0, 3]), ([], []), ([5], [5]), ([4, 6, 4], [4, 6]), ([], []), ([], []), ([8, 9], [8, 9]), ([7, 10, 7], [7, 10]), ([11, 11, 0, 1, 2, 3, 4, 5, 6, 7, 8, 9, 10, 11], [11])])
def spec_LiveAdd.B6 : List Nat := [0, 0, 0, 6, 15, 0, 32, 127, 0, 0, 768, 2047, 4095]
theorem spec_LiveAdd.tab6 : rtab .any (opsOf Try.f12 6) = spec_LiveAdd.T6 := kr
theorem spec_LiveAdd.bits6 : waitsOk spec_LiveAdd.T6.2 spec_LiveAdd.B6 = true := kr
set_option maxHeartbeats 8000000 in
set_option maxRecDepth 100000 in
theorem spec_LiveAdd.calls (k : Nat) (A0 : Option Addr) (c0 : Nat) (l0 : List (S37)) (a1 : Int) (a2_0 : Int) (a2_1 : Int) (r1 : List (S37)) (r2 : Bool) (w : World) (hr0 : Kd.C k37 w A0 l0.length l0) (hc0 : l0.length ≤ c0) (h : spec_LiveAdd.f k l0 a1 a2_0 a2_1 = some (r1, r2)) :
    Calls Try.prog 12 #[.slice A0 l0.length c0, .int .i64 a1, .agg #[.int .i64 a2_0, .int .i64 a2_1]] w fun e w' => ∃ v0_ : Value, e = .returned (.tuple #[v0_, .bool r2]) ∧ Kd.R k37 37 w' w.heap.size (fun _ => True) v0_ r1 ∧ Below w.heap.size w w' := by
  have hu37 := Try.underlying37
  have HR0 := Aside0.mk hr0
  have HC0 := Aside0.mk hc0
  clear hr0 hc0
  have HB := Aside0.mk (Below.refl w.heap.size w)
  unfold spec_LiveAdd.f at h
  have H := h
  clear h
  replace H := bn H
  obtain ⟨t360, A4, H⟩ := H
  try dsimp only at H
  have HU5 := Aside0.mk H
  clear H
  go_enter Try.func12, Try.ntmps12
  go_upto_if 13 with (first | ((with_reducible refine gd 5 ?_); refine bx 5 37 #[.int .i64 a2_0, .int .i64 a2_1] ?_; clear HB; intro gb359 w6 hg BK359 hb GE359 HB; clear hb hg) | ((with_reducible refine gf 37 ?_); refine gc Try.func37 (some 12) (spec_LiveOk.calls _ A0 c0 _ _ _ _ (cb HR0) HC0.out A4.out) ?_; rintro e w7 ⟨rfl, hb⟩; refine ⟨_, rfl, ?_⟩; replace BK359 := b_ BK359 hb; replace HB := hs hb; try clear hb))
  (try refine ap ?_)
  have H := HU5.out
  clear HU5
  replace H := ib H
  rcases H with ⟨rfl, H⟩ | ⟨rfl, H⟩
  · (try simp only [Bool.not_true, Bool.not_false])
    have H' := Aside0.mk H
    clear H
    go_wp2
    go_loopg [8] k (fun kq v8 w' => ∃ (x8_1 : Int), v8 = .int .i64 x8_1 ∧ Aside0 (spec_LiveAdd.l0 kq l0 a1 x8_1 a2_0 a2_1 = some (r1, r2)) ∧ Aside0 (kq ≤ k) ∧ Aside0 (w'.heap[gb359]? = some (.cells #[.int .i64 a2_0, .int .i64 a2_1] 37 (0, 0))) ∧ Aside0 (Below w.heap.size w w'))
    case atStart => exact ⟨(0), ev, H', ⟨Nat.le_refl _⟩, ⟨bk BK359⟩, ⟨bw⟩⟩
    case round =>
      clear H'
      try clear c8
      obtain ⟨x8_1, rfl, HA, HK1, BK359, HB⟩ := hrel
      cases gk with
      | zero => exact absurd HA.out (by simp [spec_LiveAdd.l0])
      | succ k1 =>
        have H := HA.out
        clear HA
        simp only [spec_LiveAdd.l0] at H
        replace H := ilt H
        rcases H with ⟨c9b0, H⟩ | ⟨c9b0, H⟩
        · by_cases c10 : 0 ≤ x8_1
          · rw [if_pos c10] at H
            have c10b0 : decide (0 ≤ x8_1) = true := decide_eq_true c10
            clear c10
            have HU11 := Aside0.mk H
            clear H
            try go_wp2
            replace BK359 := bd BK359
            replace HB := hd HB
            have p361 : 0 ≤ (x8_1 : Int) := of_decide_eq_true as_
            have q361 : x8_1 < (l0.length : Int) := of_decide_eq_true as_
            obtain ⟨ad361, e361, hx361_0, hx361_1⟩ := at_T37 HR0.out x8_1 p361 q361
            have hw361_1 := hx361_1
            have hw361_0 := hx361_0
            cases e361
            replace hx361_0 := cl HB hx361_0
            replace hx361_1 := cl HB hx361_1
            replace p361 := eq_true p361
            replace q361 := eq_true q361
            refine st 14 (fun w' => CA w' gb359 0 [.int .i64 a2_0, .int .i64 a2_1] ∧ w'.cell? (ad361.add ((x8_1).toNat * 2)) = some (.int .i64 ((rd_T37 l0 x8_1).f0)) ∧ w'.cell? ⟨(ad361.add ((x8_1).toNat * 2)).block, (ad361.add ((x8_1).toNat * 2)).off + 1, none⟩ = some (.int .i64 ((rd_T37 l0 x8_1).f1))) [] ⟨cx BK359, (cl HB hw361_0 :), (cl HB hw361_1 :)⟩ spec_LiveAdd.tab4 spec_LiveAdd.bits4 ?_; intro hHeld HT_ HW_
            generalize wr.drew = w12 at BK359 HB hx361_0 hx361_1 hHeld ⊢
            refine pu 0 14 (bl 14 1) ?_
            refine pu 1 15 (bl 14 3) ?_
            refine pu 2 16 (bl 14 7) ?_
            refine pu 3 17 (bl 14 15) ?_
            refine pu 4 18 (bl 14 31) ?_
            refine pu 5 19 (bl 14 63) ?_
            refine pu 6 20 (bl 14 127) ?_
            refine pu 7 21 (bl 14 255) ?_
            refine pu 8 22 (bl 14 511) ?_
            refine pu 10 24 (bl 14 1535) ?_
            refine tk 9 23 (bl 14 2047) ?_
            refine tk 11 25 (bl 14 4095) ?_
            refine pu 12 26 (bl 14 8191) ?_
            refine pu 13 27 (bl 14 16383) ?_
            refine dn ?_ _
            go_upto_if 27 with (fail)
            have H := HU11.out
            clear HU11
            replace H := ilt H
            rcases H with ⟨c13b0, H⟩ | ⟨c13b0, H⟩
            · (first | rw [c13b0] | (simp only [i64_w, i32_w]; rw [c13b0]) | (simp only [c13b2, Bool.not_true, Bool.not_false]) | (simp only [c13b1, Bool.not_true, Bool.not_false]) | skip)
              have H' := Aside0.mk H
              clear H
              go_wp2
              go_roundg k1
              case measure => have := HK1.out; omega
              case rel => exact ⟨(wrap64 (x8_1 + 1)), ev, H', ⟨oa HK1⟩, ⟨bk BK359⟩, ⟨bw⟩⟩
            · (first | rw [c13b0] | (simp only [i64_w, i32_w]; rw [c13b0]) | (simp only [c13b2, Bool.not_true, Bool.not_false]) | (simp only [c13b1, Bool.not_true, Bool.not_false]) | skip)
              obtain ⟨y362, hy362⟩ : ∃ y_ : List (S37), y_ = (([] : List (S37))) := ⟨_, rfl⟩
              replace H : (if x8_1 ≤ (l0.length : Int) then ((some (l0.take (x8_1 : Int).toNat : List (S37))).bind fun y365 => (if y362.length + y365.length < 8796093022208 then ((some (y362 ++ y365 : List (S37))).bind fun y369 => ((some (([(⟨a2_0, a2_1⟩ : S37)] : List (S37)) : List (S37))).bind fun y372 => (if y369.length + y372.length < 8796093022208 then ((some (y369 ++ y372 : List (S37))).bind fun y375 => ((some (l0.drop (x8_1 : Int).toNat : List (S37))).bind fun y378 => (if y375.length + y378.length < 8796093022208 then ((some (y375 ++ y378 : List (S37))).bind fun y382 => ((spec_LiveOk.f k1 y382 a1).bind fun t385 => (if t385 = true then (some (y382, true)) else (some (([] : List (S37)), false))))) else (none)))) else (none)))) else (none))) else (none)) = some (r1, r2) := by first | (rw [hy362]; with_reducible exact H) | (have H2_ := (Option.bind_some _ _).symm.trans H; rw [hy362]; with_reducible exact H2_) | (have H2_ := (Option.bind_some _ _).symm.trans H; with_reducible exact H2_) | with_reducible exact H | (rw [hy362]; exact H) | exact H
              have Ny362 := Aside0.mk hy362
              clear hy362
              have c14b0 := eq_true (of_decide_eq_true as_ : 0 ≤ x8_1)
              by_cases c15 : x8_1 ≤ (l0.length : Int)
              · rw [if_pos c15] at H
                have c15b0 := eq_true c15
                have c15b1 : decide (x8_1 ≤ (l0.length : Int)) = true := decide_eq_true c15
                clear c15
                obtain ⟨y365, hy365⟩ : ∃ y_ : List (S37), y_ = (l0.take (x8_1 : Int).toNat) := ⟨_, rfl⟩
                rw [← hy365] at H
                try with_reducible replace H := bs H
                have Ny365 := Aside0.mk hy365
                clear hy365
                by_cases c16 : y362.length + y365.length < 8796093022208
                · rw [if_pos c16] at H
                  have LMc16 := Aside0.mk c16
                  clear c16
                  obtain ⟨y369, hy369⟩ : ∃ y_ : List (S37), y_ = (y362 ++ y365) := ⟨_, rfl⟩
                  rw [← hy369] at H
                  try with_reducible replace H := bs H
                  have Ny369 := Aside0.mk hy369
                  clear hy369
                  obtain ⟨y372, hy372⟩ : ∃ y_ : List (S37), y_ = (([(⟨a2_0, a2_1⟩ : S37)] : List (S37))) := ⟨_, rfl⟩
                  rw [← hy372] at H
                  try with_reducible replace H := bs H
                  have Ny372 := Aside0.mk hy372
                  clear hy372
                  by_cases c17 : y369.length + y372.length < 8796093022208
                  · rw [if_pos c17] at H
                    have LMc17 := Aside0.mk c17
                    clear c17
                    obtain ⟨y375, hy375⟩ : ∃ y_ : List (S37), y_ = (y369 ++ y372) := ⟨_, rfl⟩
                    rw [← hy375] at H
                    try with_reducible replace H := bs H
                    have Ny375 := Aside0.mk hy375
                    clear hy375
                    have c18b0 := eq_true (of_decide_eq_true as_ : 0 ≤ x8_1)
                    have c19b0 := eq_true (of_decide_eq_true as_ : x8_1 ≤ (l0.length : Int))
                    obtain ⟨y378, hy378⟩ : ∃ y_ : List (S37), y_ = (l0.drop (x8_1 : Int).toNat) := ⟨_, rfl⟩
                    rw [← hy378] at H
                    try with_reducible replace H := bs H
                    have Ny378 := Aside0.mk hy378
                    clear hy378
                    by_cases c20 : y375.length + y378.length < 8796093022208
                    · rw [if_pos c20] at H
                      have LMc20 := Aside0.mk c20
                      clear c20
                      obtain ⟨y382, hy382⟩ : ∃ y_ : List (S37), y_ = (y375 ++ y378) := ⟨_, rfl⟩
                      rw [← hy382] at H
                      try with_reducible replace H := bs H
                      have Ny382 := Aside0.mk hy382
                      clear hy382
                      replace H := bn H
                      obtain ⟨t385, A21, H⟩ := H
                      try dsimp only at H
                      have HU22 := Aside0.mk H
                      clear H
                      try go_wp2
                      replace BK359 := bd BK359
                      replace HB := hd HB
                      have q24 : (x8_1 : Int) ≤ ((l0.length : Int) : Int) := of_decide_eq_true as_
                      obtain ⟨i024, hi024, _, hsz24, _⟩ := info_parts info37
                      have hroom24 : l0.length ≤ c0 := HC0.out
                      have hC24 : Kd.C k37 _ (some ad361) l0.length l0 := HR0.out
                      have hcut24 := cut_to (P := Try.prog) 35 37 .i64 Try.underlying35 hi024 (some ad361) l0.length c0 x8_1 (of_decide_eq_true as_) q24 hroom24
                      have hr24 := Kd.C_take (m := (x8_1 : Int).toNat) hC24 (by omega)
                      have hy24 : y365.length = (x8_1 : Int).toNat := (by rw [Ny365.out, List.length_take]; omega)
                      rw [← Ny365.out] at hr24
                      rw [← hy24] at hcut24
                      have HR368 := Aside0.mk hr24
                      have HC368 := Aside0.mk (show y365.length ≤ c0 from by omega)
                      clear hr24 hC24 hroom24 hi024 hsz24
                      have KY24 := Aside0.mk hy24
                      clear hy24
                      replace q24 := eq_true q24
                      have q25 : (x8_1 : Int) ≤ ((l0.length : Int) : Int) := of_decide_eq_true as_
                      obtain ⟨i025, hi025, _, hsz25, _⟩ := info_parts info37
                      have hroom25 : l0.length ≤ c0 := HC0.out
                      have hC25 : Kd.C k37 _ (some ad361) l0.length l0 := HR0.out
                      have q025 : (0 : Int) ≤ (x8_1 : Int) := of_decide_eq_true as_
                      have hcut25 := cut_from (P := Try.prog) 35 37 .i64 Try.underlying35 hi025 2 hsz25 (some ad361) l0.length c0 x8_1 q025 q25
                      have hr25 := Kd.C_drop (m := (x8_1 : Int).toNat) (c := c0) hC25 (by omega) hroom25
                      obtain ⟨A25, hA25⟩ : ∃ A1, A1 = (if c0 = (x8_1 : Int).toNat then (some ad361) else ((some ad361) : Option Addr).map (·.add ((x8_1 : Int).toNat * 2))) := ⟨_, rfl⟩
                      obtain ⟨c25, hc25⟩ : ∃ c1, c1 = c0 - (x8_1 : Int).toNat := ⟨_, rfl⟩
                      have hy25 : y378.length = l0.length - (x8_1 : Int).toNat := (by rw [Ny378.out, List.length_drop] <;> omega)
                      rw [show (l0).drop (x8_1 : Int).toNat = y378 from Ny378.out.symm] at hr25
                      replace hr25 : Kd.C k37 _ A25 y378.length y378 := (by rw [hA25]; exact hr25)
                      rw [← hy25, ← hA25, ← hc25] at hcut25
                      have HR381 := Aside0.mk hr25
                      have HC381 := Aside0.mk (show y378.length ≤ c25 from by rw [hy25, hc25]; exact Nat.sub_le_sub_right hroom25 _)
                      clear hr25 hC25 hroom25 hi025 hsz25 hc25
                      have KY25 := Aside0.mk hy25
                      have KA25 := Aside0.mk hA25
                      clear hy25 hA25
                      replace q25 := eq_true q25
                      refine st 13 (fun w' => CA w' gb359 0 [.int .i64 a2_0, .int .i64 a2_1]) [] (cx BK359) spec_LiveAdd.tab6 spec_LiveAdd.bits6 ?_; intro hHeld HT_ HW_
                      generalize w12.drew = w23 at BK359 HB HR368 HR381 hHeld ⊢
                      refine pu 1 31 (bl 13 2) ?_
                      refine pu 2 32 (bl 13 6) ?_
                      refine pu 3 33 (bl 13 14) ?_
                      refine pu 8 38 (bl 13 270) ?_
                      refine pu 9 39 (bl 13 782) ?_
                      refine pu 10 40 (bl 13 1806) ?_
                      refine tk 5 35 (bl 13 1838) ?_
                      refine join_ (σ := Value × Value × Value) 3 (bl 13 1919) (fun s_ => [(30, s_.1), (34, s_.2.1), (36, s_.2.2)]) (fun s_ w' => (CA w' gb359 0 [.int .i64 a2_0, .int .i64 a2_1]) ∧ (Kd.R k37 37 w' w.heap.size (fun k_ => some k_ ≠ (s_.2.2 : Value).ownBlock ∧ k_ ≠ gb359) s_.2.1 y369) ∧ (Kd.R k37 37 w' w.heap.size (fun k_ => some k_ ≠ (s_.2.1 : Value).ownBlock ∧ k_ ≠ gb359) s_.2.2 y372) ∧ (w'.heap[gb359]? = some (.cells #[.int .i64 a2_0, .int .i64 a2_1] 37 (0, 0))) ∧ (Below w.heap.size w w')) ?_ ?_
                      rotate_left
                      · intro hCont
                        refine two_ (i := 0) (j := 6) (Ni := some 30) (Nj := some 36) (bl 13 1839) (bl 13 1902) rfl rfl rfl rfl (two_of HT_.out kr) (by decide) (by decide) (fun K hK => ?_) (fun K hK => ?_)
                        · skip
                          refine Kd.R_lit_step k37 _ 37 ?hg (N := 30) ?hd (xs := ([] : List (S37))) (inner := []) (ok := fun _ => True) (okp := fun _ => True) ?hr ?hp (fun _ hk => hk) trivial (Below.refl _ _) (Nat.le_refl _) (by simp) ?_; (case hd => rfl); (case hg => rfl); (case hr => first | (go_simp; done) | (go_simp; rfl)); (case hp => exact (Reps.none _ _))
                          intro v363 w26 ho27 hb hg_ hnew_
                          clear hg_ hnew_
                          (first | rw [← Ny362.out] at ho27 | (simp only [Int.reduceToNat] at ho27; rw [← Ny362.out] at ho27))
                          have HO364 := Aside0.mk (Kd.R_lower (Kd.R_newB ho27 (g := gb359) (o := .cells #[.int .i64 a2_0, .int .i64 a2_1] 37 (0, 0)) (bk BK359)) (below_size bw))
                          replace BK359 := b_ BK359 hb
                          replace HB := hs hb
                          clear hb ho27
                          refine hK.out _ _ (cx BK359) (fun hHeld => ?_)
                          clear hK K
                          refine nm ?_
                          refine two_ (i := 4) (j := 6) (Ni := some 34) (Nj := some 36) (bl 13 1855) (bl 13 1903) rfl rfl rfl rfl (two_of HT_.out kr) (by decide) (by decide) (fun K hK => ?_) (fun K hK => ?_)
                          · skip
                            refine Kd.R_append_rows_step k37 (w0 := w) w.heap.size (by rfl) (.tmp 30) (.tmp 33) 35 37 (.agg #[(.int .i64 0), (.int .i64 0)]) 16 rfl Try.underlying35 info37 rfl (by decide) (by omega) v363 y362 y365 _ _ _ (fun k_ => k_ ≠ gb359) (fun _ => False) rfl rfl ?aO ?aR (fun _ _ h => h) (fun _ h => h.elim) ?aF ?aB ?aS ?aL ?_
                            (case aR => repeat (first | exact (Kd.C_below HR368.out HB.out) | (with_reducible refine Kd.C_alloc ?_ _) | (with_reducible refine Kd.C_drewN ?_ _) | (with_reducible refine Kd.C_drew ?_)))
                            (case aB => exact bw)
                            (case aF => exact (fun k_ hk => Kd.freshB (g := gb359) (o := .cells #[.int .i64 a2_0, .int .i64 a2_1] 37 (0, 0)) (bk BK359) k_ hk))
                            (case aO => exact (by (with_reducible repeat (first | apply Kd.R_alloc | apply Kd.R_drewN | apply Kd.R_drew)); exact Kd.R_mono HO364.out (fun _ hk => hk.2)))
                            (case aS => exact (below_size bw))
                            (case aL => have := LMc16.out; omega)
                            intro v370 w28 ho hb hg hat
                            rw [← Ny369.out] at ho
                            replace BK359 := bg BK359 hg (Kd.R_away HO364.out (fun _ hk => hk.2))
                            have HO371 := Aside0.mk (ho)
                            replace HB := Aside0.mk (hb)
                            clear HO364
                            clear ho hb hg hat
                            refine hK.out _ _ (cx BK359) (fun hHeld => ?_)
                            clear hK K
                            refine nm ?_
                            refine on_ 6 (some 36) (bl 13 1919) (fun K hK => ?_)
                            refine Kd.R_lit_step k37 _ 37 ?hg (N := 36) ?hd (xs := ([(⟨a2_0, a2_1⟩ : S37)] : List (S37))) (inner := [.int .i64 a2_0, .int .i64 a2_1]) (ok := fun _ => True) (okp := fun _ => True) ?hr ?hp (fun _ hk => hk) trivial (Below.refl _ _) (Nat.le_refl _) (by simp) ?_; (case hd => rfl); (case hg => rfl); (case hr => first | (go_simp; done) | (go_simp; rfl)); (case hp => exact (Reps.c2 (show Kd.M k37 _ _ _ (⟨a2_0, a2_1⟩ : S37) [.int .i64 a2_0, .int .i64 a2_1] from (k37_mkM _ _ _ (⟨a2_0, a2_1⟩ : S37) )) (Reps.none _ _)))
                            intro v373 w29 ho30 hb hg_ hnew_
                            clear hg_ hnew_
                            (first | rw [← Ny372.out] at ho30 | (simp only [Int.reduceToNat] at ho30; rw [← Ny372.out] at ho30))
                            have HO374 := Aside0.mk (Kd.R_lower (Kd.R_newB (Kd.R_new' ho30 (Kd.R_lt (ro HO371))) (g := gb359) (o := .cells #[.int .i64 a2_0, .int .i64 a2_1] 37 (0, 0)) (bk BK359)) (below_size bw))
                            replace HO371 := Aside0.mk (Kd.R_elder' (ro HO371) (Kd.R_base ho30) hb)
                            replace BK359 := b_ BK359 hb
                            replace HB := hs hb
                            clear hb ho30
                            refine hK.out _ _ (cx BK359) (fun hHeld => ?_)
                            clear hK K
                            refine nm ?_
                            exact norm_ (by simp only [putAll, Act.put, List.setIfInBounds_toArray, List.set_cons_zero, List.set_cons_succ]) (hCont (v363, v370, v373) _ ⟨hHeld, (by (with_reducible repeat (first | apply Kd.R_alloc | apply Kd.R_drewN | apply Kd.R_drew)); exact Kd.R_mono HO371.out (fun _ hk => ⟨hk.2, hk.1⟩)), (by (with_reducible repeat (first | apply Kd.R_alloc | apply Kd.R_drewN | apply Kd.R_drew)); exact Kd.R_mono HO374.out (fun _ hk => ⟨hk.1.2, hk.2⟩)), (bk BK359), bw⟩)
                          · skip
                            refine Kd.R_lit_step k37 _ 37 ?hg (N := 36) ?hd (xs := ([(⟨a2_0, a2_1⟩ : S37)] : List (S37))) (inner := [.int .i64 a2_0, .int .i64 a2_1]) (ok := fun _ => True) (okp := fun _ => True) ?hr ?hp (fun _ hk => hk) trivial (Below.refl _ _) (Nat.le_refl _) (by simp) ?_; (case hd => rfl); (case hg => rfl); (case hr => first | (go_simp; done) | (go_simp; rfl)); (case hp => exact (Reps.c2 (show Kd.M k37 _ _ _ (⟨a2_0, a2_1⟩ : S37) [.int .i64 a2_0, .int .i64 a2_1] from (k37_mkM _ _ _ (⟨a2_0, a2_1⟩ : S37) )) (Reps.none _ _)))
                            intro v373 w28 ho29 hb hg_ hnew_
                            clear hg_ hnew_
                            (first | rw [← Ny372.out] at ho29 | (simp only [Int.reduceToNat] at ho29; rw [← Ny372.out] at ho29))
                            have HO374 := Aside0.mk (Kd.R_lower (Kd.R_newB (Kd.R_new' ho29 (Kd.R_lt (ro HO364))) (g := gb359) (o := .cells #[.int .i64 a2_0, .int .i64 a2_1] 37 (0, 0)) (bk BK359)) (below_size bw))
                            replace HO364 := Aside0.mk (Kd.R_elder' (ro HO364) (Kd.R_base ho29) hb)
                            replace BK359 := b_ BK359 hb
                            replace HB := hs hb
                            clear hb ho29
                            refine hK.out _ _ (cx BK359) (fun hHeld => ?_)
                            clear hK K
                            refine nm ?_
                            refine on_ 4 (some 34) (bl 13 1919) (fun K hK => ?_)
                            refine Kd.R_append_rows_step k37 (w0 := w) w.heap.size (by rfl) (.tmp 30) (.tmp 33) 35 37 (.agg #[(.int .i64 0), (.int .i64 0)]) 16 rfl Try.underlying35 info37 rfl (by decide) (by omega) v363 y362 y365 _ _ _ (fun k_ => some k_ ≠ (v373 : Value).ownBlock ∧ k_ ≠ gb359) (fun _ => False) rfl rfl ?aO ?aR (fun _ _ h => h) (fun _ h => h.elim) ?aF ?aB ?aS ?aL ?_
                            (case aR => repeat (first | exact (Kd.C_below HR368.out HB.out) | (with_reducible refine Kd.C_alloc ?_ _) | (with_reducible refine Kd.C_drewN ?_ _) | (with_reducible refine Kd.C_drew ?_)))
                            (case aB => exact bw)
                            (case aF => exact (fun k_ hk => ⟨Kd.fresh' (Kd.R_lt (ro HO374)) k_ hk, Kd.freshB (g := gb359) (o := .cells #[.int .i64 a2_0, .int .i64 a2_1] 37 (0, 0)) (bk BK359) k_ hk⟩))
                            (case aO => exact (by (with_reducible repeat (first | apply Kd.R_alloc | apply Kd.R_drewN | apply Kd.R_drew)); exact Kd.R_mono HO364.out (fun _ hk => ⟨hk.2, hk.1.2⟩)))
                            (case aS => exact (below_size bw))
                            (case aL => have := LMc16.out; omega)
                            intro v370 w30 ho hb hg hat
                            rw [← Ny369.out] at ho
                            replace BK359 := bg BK359 hg (Kd.R_away HO364.out (fun _ hk => hk.1.2))
                            replace HO374 := Aside0.mk (Kd.R_after (ok := (fun k_ => k_ ≠ gb359)) (by (with_reducible repeat (first | apply Kd.R_alloc | apply Kd.R_drewN | apply Kd.R_drew)); exact Kd.R_mono HO374.out (fun _ hk => ⟨hk.2, hk.1.2⟩)) hg hat)
                            have HO371 := Aside0.mk (ho)
                            replace HB := Aside0.mk (hb)
                            clear HO364
                            clear ho hb hg hat
                            refine hK.out _ _ (cx BK359) (fun hHeld => ?_)
                            clear hK K
                            refine nm ?_
                            exact norm_ (by simp only [putAll, Act.put, List.setIfInBounds_toArray, List.set_cons_zero, List.set_cons_succ]) (hCont (v363, v370, v373) _ ⟨hHeld, (ro HO371), (by (with_reducible repeat (first | apply Kd.R_alloc | apply Kd.R_drewN | apply Kd.R_drew)); exact Kd.R_mono HO374.out (fun _ hk => ⟨hk.2, hk.1⟩)), (bk BK359), bw⟩)
                        · skip
                          refine Kd.R_lit_step k37 _ 37 ?hg (N := 36) ?hd (xs := ([(⟨a2_0, a2_1⟩ : S37)] : List (S37))) (inner := [.int .i64 a2_0, .int .i64 a2_1]) (ok := fun _ => True) (okp := fun _ => True) ?hr ?hp (fun _ hk => hk) trivial (Below.refl _ _) (Nat.le_refl _) (by simp) ?_; (case hd => rfl); (case hg => rfl); (case hr => first | (go_simp; done) | (go_simp; rfl)); (case hp => exact (Reps.c2 (show Kd.M k37 _ _ _ (⟨a2_0, a2_1⟩ : S37) [.int .i64 a2_0, .int .i64 a2_1] from (k37_mkM _ _ _ (⟨a2_0, a2_1⟩ : S37) )) (Reps.none _ _)))
                          intro v373 w26 ho27 hb hg_ hnew_
                          clear hg_ hnew_
                          (first | rw [← Ny372.out] at ho27 | (simp only [Int.reduceToNat] at ho27; rw [← Ny372.out] at ho27))
                          have HO374 := Aside0.mk (Kd.R_lower (Kd.R_newB ho27 (g := gb359) (o := .cells #[.int .i64 a2_0, .int .i64 a2_1] 37 (0, 0)) (bk BK359)) (below_size bw))
                          replace BK359 := b_ BK359 hb
                          replace HB := hs hb
                          clear hb ho27
                          refine hK.out _ _ (cx BK359) (fun hHeld => ?_)
                          clear hK K
                          refine nm ?_
                          refine on_ 0 (some 30) (bl 13 1903) (fun K hK => ?_)
                          refine Kd.R_lit_step k37 _ 37 ?hg (N := 30) ?hd (xs := ([] : List (S37))) (inner := []) (ok := fun _ => True) (okp := fun _ => True) ?hr ?hp (fun _ hk => hk) trivial (Below.refl _ _) (Nat.le_refl _) (by simp) ?_; (case hd => rfl); (case hg => rfl); (case hr => first | (go_simp; done) | (go_simp; rfl)); (case hp => exact (Reps.none _ _))
                          intro v363 w28 ho29 hb hg_ hnew_
                          clear hg_ hnew_
                          (first | rw [← Ny362.out] at ho29 | (simp only [Int.reduceToNat] at ho29; rw [← Ny362.out] at ho29))
                          have HO364 := Aside0.mk (Kd.R_lower (Kd.R_newB (Kd.R_new' ho29 (Kd.R_lt (ro HO374))) (g := gb359) (o := .cells #[.int .i64 a2_0, .int .i64 a2_1] 37 (0, 0)) (bk BK359)) (below_size bw))
                          replace HO374 := Aside0.mk (Kd.R_elder' (ro HO374) (Kd.R_base ho29) hb)
                          replace BK359 := b_ BK359 hb
                          replace HB := hs hb
                          clear hb ho29
                          refine hK.out _ _ (cx BK359) (fun hHeld => ?_)
                          clear hK K
                          refine nm ?_
                          refine on_ 4 (some 34) (bl 13 1919) (fun K hK => ?_)
                          refine Kd.R_append_rows_step k37 (w0 := w) w.heap.size (by rfl) (.tmp 30) (.tmp 33) 35 37 (.agg #[(.int .i64 0), (.int .i64 0)]) 16 rfl Try.underlying35 info37 rfl (by decide) (by omega) v363 y362 y365 _ _ _ (fun k_ => some k_ ≠ (v373 : Value).ownBlock ∧ k_ ≠ gb359) (fun _ => False) rfl rfl ?aO ?aR (fun _ _ h => h) (fun _ h => h.elim) ?aF ?aB ?aS ?aL ?_
                          (case aR => repeat (first | exact (Kd.C_below HR368.out HB.out) | (with_reducible refine Kd.C_alloc ?_ _) | (with_reducible refine Kd.C_drewN ?_ _) | (with_reducible refine Kd.C_drew ?_)))
                          (case aB => exact bw)
                          (case aF => exact (fun k_ hk => ⟨Kd.fresh' (Kd.R_lt (ro HO374)) k_ hk, Kd.freshB (g := gb359) (o := .cells #[.int .i64 a2_0, .int .i64 a2_1] 37 (0, 0)) (bk BK359) k_ hk⟩))
                          (case aO => exact (by (with_reducible repeat (first | apply Kd.R_alloc | apply Kd.R_drewN | apply Kd.R_drew)); exact Kd.R_mono HO364.out (fun _ hk => ⟨hk.1.2, hk.2⟩)))
                          (case aS => exact (below_size bw))
                          (case aL => have := LMc16.out; omega)
                          intro v370 w30 ho hb hg hat
                          rw [← Ny369.out] at ho
                          replace BK359 := bg BK359 hg (Kd.R_away HO364.out (fun _ hk => hk.2))
                          replace HO374 := Aside0.mk (Kd.R_after (ok := (fun k_ => k_ ≠ gb359)) (by (with_reducible repeat (first | apply Kd.R_alloc | apply Kd.R_drewN | apply Kd.R_drew)); exact Kd.R_mono HO374.out (fun _ hk => ⟨hk.1.2, hk.2⟩)) hg hat)
                          have HO371 := Aside0.mk (ho)
                          replace HB := Aside0.mk (hb)
                          clear HO364
                          clear ho hb hg hat
                          refine hK.out _ _ (cx BK359) (fun hHeld => ?_)
                          clear hK K
                          refine nm ?_
                          exact norm_ (by simp only [putAll, Act.put, List.setIfInBounds_toArray, List.set_cons_zero, List.set_cons_succ]) (hCont (v363, v370, v373) _ ⟨hHeld, (ro HO371), (by (with_reducible repeat (first | apply Kd.R_alloc | apply Kd.R_drewN | apply Kd.R_drew)); exact Kd.R_mono HO374.out (fun _ hk => ⟨hk.2, hk.1⟩)), (bk BK359), bw⟩)
                      rintro ⟨v363, v370, v373⟩ w31 ⟨hS_, h0_, h1_, h2_, h3_⟩
                      have n0_ : Aside0 (Kd.R k37 37 w31 w.heap.size (fun k_ => some k_ ≠ (v373 : Value).ownBlock ∧ k_ ≠ gb359) v370 y369) := ⟨h0_⟩
                      have n1_ : Aside0 (Kd.R k37 37 w31 w.heap.size (fun k_ => some k_ ≠ (v370 : Value).ownBlock ∧ k_ ≠ gb359) v373 y372) := ⟨h1_⟩
                      have n2_ : Aside0 (w31.heap[gb359]? = some (.cells #[.int .i64 a2_0, .int .i64 a2_1] 37 (0, 0))) := ⟨h2_⟩
                      have n3_ : Aside0 (Below w.heap.size w w31) := ⟨h3_⟩
                      clear BK359
                      clear HB
                      clear h0_ h1_ h2_ h3_
                      have HO371 := n0_
                      have HO374 := n1_
                      have BK359 := n2_
                      have HB := n3_
                      clear n0_ n1_ n2_ n3_
                      have hHeld := hS_
                      obtain ⟨Ao33, co33, eo33⟩ := Kd.R_slice HO374.out
                      (first | subst eo33 | (injection eo33 with f1_ f2_ f3_; have f4_ := f1_.symm; have f5_ := f3_.symm; clear f1_ f2_ f3_; subst f4_; subst f5_))
                      refine norm_ (a' := ?_) ?_ ?_
                      rotate_left
                      · simp only [putAll, Act.put, List.setIfInBounds_toArray, List.set_cons_zero, List.set_cons_succ]
                        rfl
                      refine on_ 7 (some 37) (bl 13 2047) (fun K hK => ?_)
                      refine Kd.R_append_rows_step k37 (w0 := w) w.heap.size (by rfl) (.tmp 34) (.tmp 36) 35 37 (.agg #[(.int .i64 0), (.int .i64 0)]) 16 rfl Try.underlying35 info37 rfl (by decide) (by omega) v370 y369 y372 _ _ _ (fun k_ => some k_ ≠ (.slice Ao33 y372.length co33 : Value).ownBlock ∧ k_ ≠ gb359) (fun _ => False) rfl rfl ?aO ?aR (fun _ _ h => h) (fun _ h => h.elim) ?aF ?aB ?aS ?aL ?_
                      (case aR => repeat (first | exact (Kd.R_reads' HO374.out).2.2 | (with_reducible refine Kd.C_alloc ?_ _) | (with_reducible refine Kd.C_drewN ?_ _) | (with_reducible refine Kd.C_drew ?_)))
                      (case aB => exact bw)
                      (case aF => exact (fun k_ hk => ⟨Kd.fresh' (Kd.R_lt (ro HO374)) k_ hk, Kd.freshB (g := gb359) (o := .cells #[.int .i64 a2_0, .int .i64 a2_1] 37 (0, 0)) (bk BK359) k_ hk⟩))
                      (case aO => exact (ro HO371))
                      (case aS => exact (below_size bw))
                      (case aL => have := LMc17.out; omega)
                      intro v376 w32 ho hb hg hat
                      rw [← Ny375.out] at ho
                      replace BK359 := bg BK359 hg (Kd.R_away HO371.out (fun _ hk => hk.2))
                      replace HO374 := Aside0.mk (Kd.R_after (ok := (fun k_ => k_ ≠ gb359)) (by (with_reducible repeat (first | apply Kd.R_alloc | apply Kd.R_drewN | apply Kd.R_drew)); exact Kd.R_mono HO374.out (fun _ hk => ⟨hk.2, hk.1⟩)) hg hat)
                      have HO377 := Aside0.mk (ho)
                      replace HB := Aside0.mk (hb)
                      clear HO371
                      clear ho hb hg hat
                      refine hK.out _ _ (cx BK359) (fun hHeld => ?_)
                      clear hK K
                      refine nm ?_
                      refine on_ 11 (some 41) (bl 13 4095) (fun K hK => ?_)
                      refine Kd.R_append_rows_step k37 (w0 := w) w.heap.size (by rfl) (.tmp 37) (.tmp 40) 35 37 (.agg #[(.int .i64 0), (.int .i64 0)]) 16 rfl Try.underlying35 info37 rfl (by decide) (by omega) v376 y375 y378 _ _ _ (fun k_ => some k_ ≠ (.slice Ao33 y372.length co33 : Value).ownBlock ∧ k_ ≠ gb359) (fun _ => False) rfl rfl ?aO ?aR (fun _ _ h => h) (fun _ h => h.elim) ?aF ?aB ?aS ?aL ?_
                      (case aR => repeat (first | exact (Kd.C_below HR381.out HB.out) | (with_reducible refine Kd.C_alloc ?_ _) | (with_reducible refine Kd.C_drewN ?_ _) | (with_reducible refine Kd.C_drew ?_)))
                      (case aB => exact bw)
                      (case aF => exact (fun k_ hk => ⟨Kd.fresh' (Kd.R_lt (ro HO374)) k_ hk, Kd.freshB (g := gb359) (o := .cells #[.int .i64 a2_0, .int .i64 a2_1] 37 (0, 0)) (bk BK359) k_ hk⟩))
                      (case aO => exact (ro HO377))
                      (case aS => exact (below_size bw))
                      (case aL => have := LMc20.out; omega)
                      intro v383 w34 ho hb hg hat
                      rw [← Ny382.out] at ho
                      replace BK359 := bg BK359 hg (Kd.R_away HO377.out (fun _ hk => hk.2))
                      replace HO374 := Aside0.mk (Kd.R_after (ok := (fun k_ => k_ ≠ gb359)) (ro HO374) hg hat)
                      have HO384 := Aside0.mk (ho)
                      replace HB := Aside0.mk (hb)
                      clear HO377
                      clear ho hb hg hat
                      refine hK.out _ _ (cx BK359) (fun hHeld => ?_)
                      clear hK K
                      refine nm ?_
                      refine pu 12 9 (bl 13 8191) ?_
                      refine dn ?_ _
                      obtain ⟨Ao35, co35, eo35⟩ := Kd.R_slice HO384.out
                      subst eo35
                      go_upto_if 45 with (first | ((with_reducible refine gf 37 ?_); refine gc Try.func37 (some 44) (spec_LiveOk.calls _ Ao35 co35 _ _ _ _ (cr HO384) ((Kd.R_reads' HO384.out).2.1) A21.out) ?_; rintro e w36 ⟨rfl, hb⟩; refine ⟨_, rfl, ?_⟩; replace HO374 := Aside0.mk (Kd.R_below (ro HO374) hb); replace HO384 := Aside0.mk (Kd.R_below (ro HO384) hb); replace BK359 := b_ BK359 hb; replace HB := hs hb; try clear hb))
                      (try refine ap ?_)
                      have H := HU22.out
                      clear HU22
                      replace H := ib H
                      rcases H with ⟨rfl, H⟩ | ⟨rfl, H⟩
                      · (try simp only [Bool.not_true, Bool.not_false])
                        simp only [Option.some.injEq, Prod.mk.injEq] at H
                        obtain ⟨rfl, rfl⟩ := H
                        go_wp2
                        go_ret2
                        exact ⟨_, rt, by (with_reducible repeat (first | apply Kd.R_alloc | apply Kd.R_drewN | apply Kd.R_drew)); exact Kd.R_mono HO384.out (fun _ hk => trivial), bw⟩
                      · (try simp only [Bool.not_true, Bool.not_false])
                        simp only [Option.some.injEq, Prod.mk.injEq] at H
                        obtain ⟨rfl, rfl⟩ := H
                        go_wp2
                        go_ret2
                        exact ⟨_, rt, by first | exact Kd.R_nil _ _ _ _ _ | exact Kd.N_nil _ _ _ _ _ | exact Kd.V_nil _ _ _ _ _ | exact Kd.Q_nil _ _ _ _ _ | exact Kd.S_nil _ _ _ _ _, bw⟩
                    · rw [if_neg c20] at H
                      exact absurd H (by simp)
                  · rw [if_neg c17] at H
                    exact absurd H (by simp)
                · rw [if_neg c16] at H
                  exact absurd H (by simp)
              · rw [if_neg c15] at H
                exact absurd H (by simp)
          · rw [if_neg c10] at H
            exact absurd H (by simp)
        · obtain ⟨y386, hy386⟩ : ∃ y_ : List (S37), y_ = (([] : List (S37))) := ⟨_, rfl⟩
          replace H : (if 0 ≤ x8_1 then (if x8_1 ≤ (l0.length : Int) then ((some (l0.take (x8_1 : Int).toNat : List (S37))).bind fun y389 => (if y386.length + y389.length < 8796093022208 then ((some (y386 ++ y389 : List (S37))).bind fun y393 => ((some (([(⟨a2_0, a2_1⟩ : S37)] : List (S37)) : List (S37))).bind fun y396 => (if y393.length + y396.length < 8796093022208 then ((some (y393 ++ y396 : List (S37))).bind fun y399 => ((some (l0.drop (x8_1 : Int).toNat : List (S37))).bind fun y402 => (if y399.length + y402.length < 8796093022208 then ((some (y399 ++ y402 : List (S37))).bind fun y406 => ((spec_LiveOk.f k1 y406 a1).bind fun t409 => (if t409 = true then (some (y406, true)) else (some (([] : List (S37)), false))))) else (none)))) else (none)))) else (none))) else (none)) else (none)) = some (r1, r2) := by first | (rw [hy386]; with_reducible exact H) | (have H2_ := (Option.bind_some _ _).symm.trans H; rw [hy386]; with_reducible exact H2_) | (have H2_ := (Option.bind_some _ _).symm.trans H; with_reducible exact H2_) | with_reducible exact H | (rw [hy386]; exact H) | exact H
          have Ny386 := Aside0.mk hy386
          clear hy386
          by_cases c38 : 0 ≤ x8_1
          · rw [if_pos c38] at H
            have c38b0 := eq_true c38
            have c38b1 : decide (0 ≤ x8_1) = true := decide_eq_true c38
            clear c38
            by_cases c39 : x8_1 ≤ (l0.length : Int)
            · rw [if_pos c39] at H
              have c39b0 := eq_true c39
              have c39b1 : decide (x8_1 ≤ (l0.length : Int)) = true := decide_eq_true c39
              clear c39
              obtain ⟨y389, hy389⟩ : ∃ y_ : List (S37), y_ = (l0.take (x8_1 : Int).toNat) := ⟨_, rfl⟩
              rw [← hy389] at H
              try with_reducible replace H := bs H
              have Ny389 := Aside0.mk hy389
              clear hy389
              by_cases c40 : y386.length + y389.length < 8796093022208
              · rw [if_pos c40] at H
                have LMc40 := Aside0.mk c40
                clear c40
                obtain ⟨y393, hy393⟩ : ∃ y_ : List (S37), y_ = (y386 ++ y389) := ⟨_, rfl⟩
                rw [← hy393] at H
                try with_reducible replace H := bs H
                have Ny393 := Aside0.mk hy393
                clear hy393
                obtain ⟨y396, hy396⟩ : ∃ y_ : List (S37), y_ = (([(⟨a2_0, a2_1⟩ : S37)] : List (S37))) := ⟨_, rfl⟩
                rw [← hy396] at H
                try with_reducible replace H := bs H
                have Ny396 := Aside0.mk hy396
                clear hy396
                by_cases c41 : y393.length + y396.length < 8796093022208
                · rw [if_pos c41] at H
                  have LMc41 := Aside0.mk c41
                  clear c41
                  obtain ⟨y399, hy399⟩ : ∃ y_ : List (S37), y_ = (y393 ++ y396) := ⟨_, rfl⟩
                  rw [← hy399] at H
                  try with_reducible replace H := bs H
                  have Ny399 := Aside0.mk hy399
                  clear hy399
                  have c42b0 := eq_true (of_decide_eq_true as_ : 0 ≤ x8_1)
                  have c43b0 := eq_true (of_decide_eq_true as_ : x8_1 ≤ (l0.length : Int))
                  obtain ⟨y402, hy402⟩ : ∃ y_ : List (S37), y_ = (l0.drop (x8_1 : Int).toNat) := ⟨_, rfl⟩
                  rw [← hy402] at H
                  try with_reducible replace H := bs H
                  have Ny402 := Aside0.mk hy402
                  clear hy402
                  by_cases c44 : y399.length + y402.length < 8796093022208
                  · rw [if_pos c44] at H
                    have LMc44 := Aside0.mk c44
                    clear c44
                    obtain ⟨y406, hy406⟩ : ∃ y_ : List (S37), y_ = (y399 ++ y402) := ⟨_, rfl⟩
                    rw [← hy406] at H
                    try with_reducible replace H := bs H
                    have Ny406 := Aside0.mk hy406
                    clear hy406
                    replace H := bn H
                    obtain ⟨t409, A45, H⟩ := H
                    try dsimp only at H
                    have HU46 := Aside0.mk H
                    clear H
                    try go_wp2
                    replace BK359 := bd BK359
                    replace HB := hd HB
                    refine st 14 (fun w' => True) [] (trivial) spec_LiveAdd.tab4 spec_LiveAdd.bits4 ?_; intro hHeld HT_ HW_
                    generalize wr.drew = w47 at BK359 HB hHeld ⊢
                    refine pu 0 14 (bl 14 1) ?_
                    refine pu 1 15 (bl 14 3) ?_
                    refine pu 2 16 (bl 14 7) ?_
                    refine pu 3 17 (bl 14 15) ?_
                    refine pu 4 18 (bl 14 31) ?_
                    refine pf 5 19 (bl 14 63) ?_
                    refine pf 6 20 (bl 14 127) ?_
                    refine pf 7 21 (bl 14 255) ?_
                    refine pf 8 22 (bl 14 511) ?_
                    refine pf 9 23 (bl 14 1023) ?_
                    refine pf 10 24 (bl 14 2047) ?_
                    refine pf 11 25 (bl 14 4095) ?_
                    refine pf 12 26 (bl 14 8191) ?_
                    refine pu 13 27 (bl 14 16383) ?_
                    refine dn ?_ _
                    try go_wp2
                    replace BK359 := bd BK359
                    replace HB := hd HB
                    have q49 : (x8_1 : Int) ≤ ((l0.length : Int) : Int) := of_decide_eq_true as_
                    obtain ⟨i049, hi049, _, hsz49, _⟩ := info_parts info37
                    have hroom49 : l0.length ≤ c0 := HC0.out
                    have hC49 : Kd.C k37 _ A0 l0.length l0 := HR0.out
                    have hcut49 := cut_to (P := Try.prog) 35 37 .i64 Try.underlying35 hi049 A0 l0.length c0 x8_1 (of_decide_eq_true as_) q49 hroom49
                    have hr49 := Kd.C_take (m := (x8_1 : Int).toNat) hC49 (by omega)
                    have hy49 : y389.length = (x8_1 : Int).toNat := (by rw [Ny389.out, List.length_take]; omega)
                    rw [← Ny389.out] at hr49
                    rw [← hy49] at hcut49
                    have HR392 := Aside0.mk hr49
                    have HC392 := Aside0.mk (show y389.length ≤ c0 from by omega)
                    clear hr49 hC49 hroom49 hi049 hsz49
                    have KY49 := Aside0.mk hy49
                    clear hy49
                    replace q49 := eq_true q49
                    have q50 : (x8_1 : Int) ≤ ((l0.length : Int) : Int) := of_decide_eq_true as_
                    obtain ⟨i050, hi050, _, hsz50, _⟩ := info_parts info37
                    have hroom50 : l0.length ≤ c0 := HC0.out
                    have hC50 : Kd.C k37 _ A0 l0.length l0 := HR0.out
                    have q050 : (0 : Int) ≤ (x8_1 : Int) := of_decide_eq_true as_
                    have hcut50 := cut_from (P := Try.prog) 35 37 .i64 Try.underlying35 hi050 2 hsz50 A0 l0.length c0 x8_1 q050 q50
                    have hr50 := Kd.C_drop (m := (x8_1 : Int).toNat) (c := c0) hC50 (by omega) hroom50
                    obtain ⟨A50, hA50⟩ : ∃ A1, A1 = (if c0 = (x8_1 : Int).toNat then A0 else (A0 : Option Addr).map (·.add ((x8_1 : Int).toNat * 2))) := ⟨_, rfl⟩
                    obtain ⟨c50, hc50⟩ : ∃ c1, c1 = c0 - (x8_1 : Int).toNat := ⟨_, rfl⟩
                    have hy50 : y402.length = l0.length - (x8_1 : Int).toNat := (by rw [Ny402.out, List.length_drop] <;> omega)
                    rw [show (l0).drop (x8_1 : Int).toNat = y402 from Ny402.out.symm] at hr50
                    replace hr50 : Kd.C k37 _ A50 y402.length y402 := (by rw [hA50]; exact hr50)
                    rw [← hy50, ← hA50, ← hc50] at hcut50
                    have HR405 := Aside0.mk hr50
                    have HC405 := Aside0.mk (show y402.length ≤ c50 from by rw [hy50, hc50]; exact Nat.sub_le_sub_right hroom50 _)
                    clear hr50 hC50 hroom50 hi050 hsz50 hc50
                    have KY50 := Aside0.mk hy50
                    have KA50 := Aside0.mk hA50
                    clear hy50 hA50
                    replace q50 := eq_true q50
                    refine st 13 (fun w' => CA w' gb359 0 [.int .i64 a2_0, .int .i64 a2_1]) [] (cx BK359) spec_LiveAdd.tab6 spec_LiveAdd.bits6 ?_; intro hHeld HT_ HW_
                    generalize w47.drew = w48 at BK359 HB HR392 HR405 hHeld ⊢
                    refine pu 1 31 (bl 13 2) ?_
                    refine pu 2 32 (bl 13 6) ?_
                    refine pu 3 33 (bl 13 14) ?_
                    refine pu 8 38 (bl 13 270) ?_
                    refine pu 9 39 (bl 13 782) ?_
                    refine pu 10 40 (bl 13 1806) ?_
                    refine tk 5 35 (bl 13 1838) ?_
                    refine join_ (σ := Value × Value × Value) 3 (bl 13 1919) (fun s_ => [(30, s_.1), (34, s_.2.1), (36, s_.2.2)]) (fun s_ w' => (CA w' gb359 0 [.int .i64 a2_0, .int .i64 a2_1]) ∧ (Kd.R k37 37 w' w.heap.size (fun k_ => some k_ ≠ (s_.2.2 : Value).ownBlock ∧ k_ ≠ gb359) s_.2.1 y393) ∧ (Kd.R k37 37 w' w.heap.size (fun k_ => some k_ ≠ (s_.2.1 : Value).ownBlock ∧ k_ ≠ gb359) s_.2.2 y396) ∧ (w'.heap[gb359]? = some (.cells #[.int .i64 a2_0, .int .i64 a2_1] 37 (0, 0))) ∧ (Below w.heap.size w w')) ?_ ?_
                    rotate_left
                    · intro hCont
                      refine two_ (i := 0) (j := 6) (Ni := some 30) (Nj := some 36) (bl 13 1839) (bl 13 1902) rfl rfl rfl rfl (two_of HT_.out kr) (by decide) (by decide) (fun K hK => ?_) (fun K hK => ?_)
                      · skip
                        refine Kd.R_lit_step k37 _ 37 ?hg (N := 30) ?hd (xs := ([] : List (S37))) (inner := []) (ok := fun _ => True) (okp := fun _ => True) ?hr ?hp (fun _ hk => hk) trivial (Below.refl _ _) (Nat.le_refl _) (by simp) ?_; (case hd => rfl); (case hg => rfl); (case hr => first | (go_simp; done) | (go_simp; rfl)); (case hp => exact (Reps.none _ _))
                        intro v387 w51 ho52 hb hg_ hnew_
                        clear hg_ hnew_
                        (first | rw [← Ny386.out] at ho52 | (simp only [Int.reduceToNat] at ho52; rw [← Ny386.out] at ho52))
                        have HO388 := Aside0.mk (Kd.R_lower (Kd.R_newB ho52 (g := gb359) (o := .cells #[.int .i64 a2_0, .int .i64 a2_1] 37 (0, 0)) (bk BK359)) (below_size bw))
                        replace BK359 := b_ BK359 hb
                        replace HB := hs hb
                        clear hb ho52
                        refine hK.out _ _ (cx BK359) (fun hHeld => ?_)
                        clear hK K
                        refine nm ?_
                        refine two_ (i := 4) (j := 6) (Ni := some 34) (Nj := some 36) (bl 13 1855) (bl 13 1903) rfl rfl rfl rfl (two_of HT_.out kr) (by decide) (by decide) (fun K hK => ?_) (fun K hK => ?_)
                        · skip
                          refine Kd.R_append_rows_step k37 (w0 := w) w.heap.size (by rfl) (.tmp 30) (.tmp 33) 35 37 (.agg #[(.int .i64 0), (.int .i64 0)]) 16 rfl Try.underlying35 info37 rfl (by decide) (by omega) v387 y386 y389 _ _ _ (fun k_ => k_ ≠ gb359) (fun _ => False) rfl rfl ?aO ?aR (fun _ _ h => h) (fun _ h => h.elim) ?aF ?aB ?aS ?aL ?_
                          (case aR => repeat (first | exact (Kd.C_below HR392.out HB.out) | (with_reducible refine Kd.C_alloc ?_ _) | (with_reducible refine Kd.C_drewN ?_ _) | (with_reducible refine Kd.C_drew ?_)))
                          (case aB => exact bw)
                          (case aF => exact (fun k_ hk => Kd.freshB (g := gb359) (o := .cells #[.int .i64 a2_0, .int .i64 a2_1] 37 (0, 0)) (bk BK359) k_ hk))
                          (case aO => exact (by (with_reducible repeat (first | apply Kd.R_alloc | apply Kd.R_drewN | apply Kd.R_drew)); exact Kd.R_mono HO388.out (fun _ hk => hk.2)))
                          (case aS => exact (below_size bw))
                          (case aL => have := LMc40.out; omega)
                          intro v394 w53 ho hb hg hat
                          rw [← Ny393.out] at ho
                          replace BK359 := bg BK359 hg (Kd.R_away HO388.out (fun _ hk => hk.2))
                          have HO395 := Aside0.mk (ho)
                          replace HB := Aside0.mk (hb)
                          clear HO388
                          clear ho hb hg hat
                          refine hK.out _ _ (cx BK359) (fun hHeld => ?_)
                          clear hK K
                          refine nm ?_
                          refine on_ 6 (some 36) (bl 13 1919) (fun K hK => ?_)
                          refine Kd.R_lit_step k37 _ 37 ?hg (N := 36) ?hd (xs := ([(⟨a2_0, a2_1⟩ : S37)] : List (S37))) (inner := [.int .i64 a2_0, .int .i64 a2_1]) (ok := fun _ => True) (okp := fun _ => True) ?hr ?hp (fun _ hk => hk) trivial (Below.refl _ _) (Nat.le_refl _) (by simp) ?_; (case hd => rfl); (case hg => rfl); (case hr => first | (go_simp; done) | (go_simp; rfl)); (case hp => exact (Reps.c2 (show Kd.M k37 _ _ _ (⟨a2_0, a2_1⟩ : S37) [.int .i64 a2_0, .int .i64 a2_1] from (k37_mkM _ _ _ (⟨a2_0, a2_1⟩ : S37) )) (Reps.none _ _)))
                          intro v397 w54 ho55 hb hg_ hnew_
                          clear hg_ hnew_
                          (first | rw [← Ny396.out] at ho55 | (simp only [Int.reduceToNat] at ho55; rw [← Ny396.out] at ho55))
                          have HO398 := Aside0.mk (Kd.R_lower (Kd.R_newB (Kd.R_new' ho55 (Kd.R_lt (ro HO395))) (g := gb359) (o := .cells #[.int .i64 a2_0, .int .i64 a2_1] 37 (0, 0)) (bk BK359)) (below_size bw))
                          replace HO395 := Aside0.mk (Kd.R_elder' (ro HO395) (Kd.R_base ho55) hb)
                          replace BK359 := b_ BK359 hb
                          replace HB := hs hb
                          clear hb ho55
                          refine hK.out _ _ (cx BK359) (fun hHeld => ?_)
                          clear hK K
                          refine nm ?_
                          exact norm_ (by simp only [putAll, Act.put, List.setIfInBounds_toArray, List.set_cons_zero, List.set_cons_succ]) (hCont (v387, v394, v397) _ ⟨hHeld, (by (with_reducible repeat (first | apply Kd.R_alloc | apply Kd.R_drewN | apply Kd.R_drew)); exact Kd.R_mono HO395.out (fun _ hk => ⟨hk.2, hk.1⟩)), (by (with_reducible repeat (first | apply Kd.R_alloc | apply Kd.R_drewN | apply Kd.R_drew)); exact Kd.R_mono HO398.out (fun _ hk => ⟨hk.1.2, hk.2⟩)), (bk BK359), bw⟩)
                        · skip
                          refine Kd.R_lit_step k37 _ 37 ?hg (N := 36) ?hd (xs := ([(⟨a2_0, a2_1⟩ : S37)] : List (S37))) (inner := [.int .i64 a2_0, .int .i64 a2_1]) (ok := fun _ => True) (okp := fun _ => True) ?hr ?hp (fun _ hk => hk) trivial (Below.refl _ _) (Nat.le_refl _) (by simp) ?_; (case hd => rfl); (case hg => rfl); (case hr => first | (go_simp; done) | (go_simp; rfl)); (case hp => exact (Reps.c2 (show Kd.M k37 _ _ _ (⟨a2_0, a2_1⟩ : S37) [.int .i64 a2_0, .int .i64 a2_1] from (k37_mkM _ _ _ (⟨a2_0, a2_1⟩ : S37) )) (Reps.none _ _)))
                          intro v397 w53 ho54 hb hg_ hnew_
                          clear hg_ hnew_
                          (first | rw [← Ny396.out] at ho54 | (simp only [Int.reduceToNat] at ho54; rw [← Ny396.out] at ho54))
                          have HO398 := Aside0.mk (Kd.R_lower (Kd.R_newB (Kd.R_new' ho54 (Kd.R_lt (ro HO388))) (g := gb359) (o := .cells #[.int .i64 a2_0, .int .i64 a2_1] 37 (0, 0)) (bk BK359)) (below_size bw))
                          replace HO388 := Aside0.mk (Kd.R_elder' (ro HO388) (Kd.R_base ho54) hb)
                          replace BK359 := b_ BK359 hb
                          replace HB := hs hb
                          clear hb ho54
                          refine hK.out _ _ (cx BK359) (fun hHeld => ?_)
                          clear hK K
                          refine nm ?_
                          refine on_ 4 (some 34) (bl 13 1919) (fun K hK => ?_)
                          refine Kd.R_append_rows_step k37 (w0 := w) w.heap.size (by rfl) (.tmp 30) (.tmp 33) 35 37 (.agg #[(.int .i64 0), (.int .i64 0)]) 16 rfl Try.underlying35 info37 rfl (by decide) (by omega) v387 y386 y389 _ _ _ (fun k_ => some k_ ≠ (v397 : Value).ownBlock ∧ k_ ≠ gb359) (fun _ => False) rfl rfl ?aO ?aR (fun _ _ h => h) (fun _ h => h.elim) ?aF ?aB ?aS ?aL ?_
                          (case aR => repeat (first | exact (Kd.C_below HR392.out HB.out) | (with_reducible refine Kd.C_alloc ?_ _) | (with_reducible refine Kd.C_drewN ?_ _) | (with_reducible refine Kd.C_drew ?_)))
                          (case aB => exact bw)
                          (case aF => exact (fun k_ hk => ⟨Kd.fresh' (Kd.R_lt (ro HO398)) k_ hk, Kd.freshB (g := gb359) (o := .cells #[.int .i64 a2_0, .int .i64 a2_1] 37 (0, 0)) (bk BK359) k_ hk⟩))
                          (case aO => exact (by (with_reducible repeat (first | apply Kd.R_alloc | apply Kd.R_drewN | apply Kd.R_drew)); exact Kd.R_mono HO388.out (fun _ hk => ⟨hk.2, hk.1.2⟩)))
                          (case aS => exact (below_size bw))
                          (case aL => have := LMc40.out; omega)
                          intro v394 w55 ho hb hg hat
                          rw [← Ny393.out] at ho
                          replace BK359 := bg BK359 hg (Kd.R_away HO388.out (fun _ hk => hk.1.2))
                          replace HO398 := Aside0.mk (Kd.R_after (ok := (fun k_ => k_ ≠ gb359)) (by (with_reducible repeat (first | apply Kd.R_alloc | apply Kd.R_drewN | apply Kd.R_drew)); exact Kd.R_mono HO398.out (fun _ hk => ⟨hk.2, hk.1.2⟩)) hg hat)
                          have HO395 := Aside0.mk (ho)
                          replace HB := Aside0.mk (hb)
                          clear HO388
                          clear ho hb hg hat
                          refine hK.out _ _ (cx BK359) (fun hHeld => ?_)
                          clear hK K
                          refine nm ?_
                          exact norm_ (by simp only [putAll, Act.put, List.setIfInBounds_toArray, List.set_cons_zero, List.set_cons_succ]) (hCont (v387, v394, v397) _ ⟨hHeld, (ro HO395), (by (with_reducible repeat (first | apply Kd.R_alloc | apply Kd.R_drewN | apply Kd.R_drew)); exact Kd.R_mono HO398.out (fun _ hk => ⟨hk.2, hk.1⟩)), (bk BK359), bw⟩)
                      · skip
                        refine Kd.R_lit_step k37 _ 37 ?hg (N := 36) ?hd (xs := ([(⟨a2_0, a2_1⟩ : S37)] : List (S37))) (inner := [.int .i64 a2_0, .int .i64 a2_1]) (ok := fun _ => True) (okp := fun _ => True) ?hr ?hp (fun _ hk => hk) trivial (Below.refl _ _) (Nat.le_refl _) (by simp) ?_; (case hd => rfl); (case hg => rfl); (case hr => first | (go_simp; done) | (go_simp; rfl)); (case hp => exact (Reps.c2 (show Kd.M k37 _ _ _ (⟨a2_0, a2_1⟩ : S37) [.int .i64 a2_0, .int .i64 a2_1] from (k37_mkM _ _ _ (⟨a2_0, a2_1⟩ : S37) )) (Reps.none _ _)))
                        intro v397 w51 ho52 hb hg_ hnew_
                        clear hg_ hnew_
                        (first | rw [← Ny396.out] at ho52 | (simp only [Int.reduceToNat] at ho52; rw [← Ny396.out] at ho52))
                        have HO398 := Aside0.mk (Kd.R_lower (Kd.R_newB ho52 (g := gb359) (o := .cells #[.int .i64 a2_0, .int .i64 a2_1] 37 (0, 0)) (bk BK359)) (below_size bw))
                        replace BK359 := b_ BK359 hb
                        replace HB := hs hb
                        clear hb ho52
                        refine hK.out _ _ (cx BK359) (fun hHeld => ?_)
                        clear hK K
                        refine nm ?_
                        refine on_ 0 (some 30) (bl 13 1903) (fun K hK => ?_)
                        refine Kd.R_lit_step k37 _ 37 ?hg (N := 30) ?hd (xs := ([] : List (S37))) (inner := []) (ok := fun _ => True) (okp := fun _ => True) ?hr ?hp (fun _ hk => hk) trivial (Below.refl _ _) (Nat.le_refl _) (by simp) ?_; (case hd => rfl); (case hg => rfl); (case hr => first | (go_simp; done) | (go_simp; rfl)); (case hp => exact (Reps.none _ _))
                        intro v387 w53 ho54 hb hg_ hnew_
                        clear hg_ hnew_
                        (first | rw [← Ny386.out] at ho54 | (simp only [Int.reduceToNat] at ho54; rw [← Ny386.out] at ho54))
                        have HO388 := Aside0.mk (Kd.R_lower (Kd.R_newB (Kd.R_new' ho54 (Kd.R_lt (ro HO398))) (g := gb359) (o := .cells #[.int .i64 a2_0, .int .i64 a2_1] 37 (0, 0)) (bk BK359)) (below_size bw))
                        replace HO398 := Aside0.mk (Kd.R_elder' (ro HO398) (Kd.R_base ho54) hb)
                        replace BK359 := b_ BK359 hb
                        replace HB := hs hb
                        clear hb ho54
                        refine hK.out _ _ (cx BK359) (fun hHeld => ?_)
                        clear hK K
                        refine nm ?_
                        refine on_ 4 (some 34) (bl 13 1919) (fun K hK => ?_)
                        refine Kd.R_append_rows_step k37 (w0 := w) w.heap.size (by rfl) (.tmp 30) (.tmp 33) 35 37 (.agg #[(.int .i64 0), (.int .i64 0)]) 16 rfl Try.underlying35 info37 rfl (by decide) (by omega) v387 y386 y389 _ _ _ (fun k_ => some k_ ≠ (v397 : Value).ownBlock ∧ k_ ≠ gb359) (fun _ => False) rfl rfl ?aO ?aR (fun _ _ h => h) (fun _ h => h.elim) ?aF ?aB ?aS ?aL ?_
                        (case aR => repeat (first | exact (Kd.C_below HR392.out HB.out) | (with_reducible refine Kd.C_alloc ?_ _) | (with_reducible refine Kd.C_drewN ?_ _) | (with_reducible refine Kd.C_drew ?_)))
                        (case aB => exact bw)
                        (case aF => exact (fun k_ hk => ⟨Kd.fresh' (Kd.R_lt (ro HO398)) k_ hk, Kd.freshB (g := gb359) (o := .cells #[.int .i64 a2_0, .int .i64 a2_1] 37 (0, 0)) (bk BK359) k_ hk⟩))
                        (case aO => exact (by (with_reducible repeat (first | apply Kd.R_alloc | apply Kd.R_drewN | apply Kd.R_drew)); exact Kd.R_mono HO388.out (fun _ hk => ⟨hk.1.2, hk.2⟩)))
                        (case aS => exact (below_size bw))
                        (case aL => have := LMc40.out; omega)
                        intro v394 w55 ho hb hg hat
                        rw [← Ny393.out] at ho
                        replace BK359 := bg BK359 hg (Kd.R_away HO388.out (fun _ hk => hk.2))
                        replace HO398 := Aside0.mk (Kd.R_after (ok := (fun k_ => k_ ≠ gb359)) (by (with_reducible repeat (first | apply Kd.R_alloc | apply Kd.R_drewN | apply Kd.R_drew)); exact Kd.R_mono HO398.out (fun _ hk => ⟨hk.1.2, hk.2⟩)) hg hat)
                        have HO395 := Aside0.mk (ho)
                        replace HB := Aside0.mk (hb)
                        clear HO388
                        clear ho hb hg hat
                        refine hK.out _ _ (cx BK359) (fun hHeld => ?_)
                        clear hK K
                        refine nm ?_
                        exact norm_ (by simp only [putAll, Act.put, List.setIfInBounds_toArray, List.set_cons_zero, List.set_cons_succ]) (hCont (v387, v394, v397) _ ⟨hHeld, (ro HO395), (by (with_reducible repeat (first | apply Kd.R_alloc | apply Kd.R_drewN | apply Kd.R_drew)); exact Kd.R_mono HO398.out (fun _ hk => ⟨hk.2, hk.1⟩)), (bk BK359), bw⟩)
                    rintro ⟨v387, v394, v397⟩ w56 ⟨hS_, h0_, h1_, h2_, h3_⟩
                    have n0_ : Aside0 (Kd.R k37 37 w56 w.heap.size (fun k_ => some k_ ≠ (v397 : Value).ownBlock ∧ k_ ≠ gb359) v394 y393) := ⟨h0_⟩
                    have n1_ : Aside0 (Kd.R k37 37 w56 w.heap.size (fun k_ => some k_ ≠ (v394 : Value).ownBlock ∧ k_ ≠ gb359) v397 y396) := ⟨h1_⟩
                    have n2_ : Aside0 (w56.heap[gb359]? = some (.cells #[.int .i64 a2_0, .int .i64 a2_1] 37 (0, 0))) := ⟨h2_⟩
                    have n3_ : Aside0 (Below w.heap.size w w56) := ⟨h3_⟩
                    clear BK359
                    clear HB
                    clear h0_ h1_ h2_ h3_
                    have HO395 := n0_
                    have HO398 := n1_
                    have BK359 := n2_
                    have HB := n3_
                    clear n0_ n1_ n2_ n3_
                    have hHeld := hS_
                    obtain ⟨Ao58, co58, eo58⟩ := Kd.R_slice HO398.out
                    (first | subst eo58 | (injection eo58 with f1_ f2_ f3_; have f4_ := f1_.symm; have f5_ := f3_.symm; clear f1_ f2_ f3_; subst f4_; subst f5_))
                    refine norm_ (a' := ?_) ?_ ?_
                    rotate_left
                    · simp only [putAll, Act.put, List.setIfInBounds_toArray, List.set_cons_zero, List.set_cons_succ]
                      rfl
                    refine on_ 7 (some 37) (bl 13 2047) (fun K hK => ?_)
                    refine Kd.R_append_rows_step k37 (w0 := w) w.heap.size (by rfl) (.tmp 34) (.tmp 36) 35 37 (.agg #[(.int .i64 0), (.int .i64 0)]) 16 rfl Try.underlying35 info37 rfl (by decide) (by omega) v394 y393 y396 _ _ _ (fun k_ => some k_ ≠ (.slice Ao58 y396.length co58 : Value).ownBlock ∧ k_ ≠ gb359) (fun _ => False) rfl rfl ?aO ?aR (fun _ _ h => h) (fun _ h => h.elim) ?aF ?aB ?aS ?aL ?_
                    (case aR => repeat (first | exact (Kd.R_reads' HO398.out).2.2 | (with_reducible refine Kd.C_alloc ?_ _) | (with_reducible refine Kd.C_drewN ?_ _) | (with_reducible refine Kd.C_drew ?_)))
                    (case aB => exact bw)
                    (case aF => exact (fun k_ hk => ⟨Kd.fresh' (Kd.R_lt (ro HO398)) k_ hk, Kd.freshB (g := gb359) (o := .cells #[.int .i64 a2_0, .int .i64 a2_1] 37 (0, 0)) (bk BK359) k_ hk⟩))
                    (case aO => exact (ro HO395))
                    (case aS => exact (below_size bw))
                    (case aL => have := LMc41.out; omega)
                    intro v400 w57 ho hb hg hat
                    rw [← Ny399.out] at ho
                    replace BK359 := bg BK359 hg (Kd.R_away HO395.out (fun _ hk => hk.2))
                    replace HO398 := Aside0.mk (Kd.R_after (ok := (fun k_ => k_ ≠ gb359)) (by (with_reducible repeat (first | apply Kd.R_alloc | apply Kd.R_drewN | apply Kd.R_drew)); exact Kd.R_mono HO398.out (fun _ hk => ⟨hk.2, hk.1⟩)) hg hat)
                    have HO401 := Aside0.mk (ho)
                    replace HB := Aside0.mk (hb)
                    clear HO395
                    clear ho hb hg hat
                    refine hK.out _ _ (cx BK359) (fun hHeld => ?_)
                    clear hK K
                    refine nm ?_
                    refine on_ 11 (some 41) (bl 13 4095) (fun K hK => ?_)
                    refine Kd.R_append_rows_step k37 (w0 := w) w.heap.size (by rfl) (.tmp 37) (.tmp 40) 35 37 (.agg #[(.int .i64 0), (.int .i64 0)]) 16 rfl Try.underlying35 info37 rfl (by decide) (by omega) v400 y399 y402 _ _ _ (fun k_ => some k_ ≠ (.slice Ao58 y396.length co58 : Value).ownBlock ∧ k_ ≠ gb359) (fun _ => False) rfl rfl ?aO ?aR (fun _ _ h => h) (fun _ h => h.elim) ?aF ?aB ?aS ?aL ?_
                    (case aR => repeat (first | exact (Kd.C_below HR405.out HB.out) | (with_reducible refine Kd.C_alloc ?_ _) | (with_reducible refine Kd.C_drewN ?_ _) | (with_reducible refine Kd.C_drew ?_)))
                    (case aB => exact bw)
                    (case aF => exact (fun k_ hk => ⟨Kd.fresh' (Kd.R_lt (ro HO398)) k_ hk, Kd.freshB (g := gb359) (o := .cells #[.int .i64 a2_0, .int .i64 a2_1] 37 (0, 0)) (bk BK359) k_ hk⟩))
                    (case aO => exact (ro HO401))
                    (case aS => exact (below_size bw))
                    (case aL => have := LMc44.out; omega)
                    intro v407 w59 ho hb hg hat
                    rw [← Ny406.out] at ho
                    replace BK359 := bg BK359 hg (Kd.R_away HO401.out (fun _ hk => hk.2))
                    replace HO398 := Aside0.mk (Kd.R_after (ok := (fun k_ => k_ ≠ gb359)) (ro HO398) hg hat)
                    have HO408 := Aside0.mk (ho)
                    replace HB := Aside0.mk (hb)
                    clear HO401
                    clear ho hb hg hat
                    refine hK.out _ _ (cx BK359) (fun hHeld => ?_)
                    clear hK K
                    refine nm ?_
                    refine pu 12 9 (bl 13 8191) ?_
                    refine dn ?_ _
                    obtain ⟨Ao60, co60, eo60⟩ := Kd.R_slice HO408.out
                    subst eo60
                    go_upto_if 45 with (first | ((with_reducible refine gf 37 ?_); refine gc Try.func37 (some 44) (spec_LiveOk.calls _ Ao60 co60 _ _ _ _ (cr HO408) ((Kd.R_reads' HO408.out).2.1) A45.out) ?_; rintro e w61 ⟨rfl, hb⟩; refine ⟨_, rfl, ?_⟩; replace HO398 := Aside0.mk (Kd.R_below (ro HO398) hb); replace HO408 := Aside0.mk (Kd.R_below (ro HO408) hb); replace BK359 := b_ BK359 hb; replace HB := hs hb; try clear hb))
                    (try refine ap ?_)
                    have H := HU46.out
                    clear HU46
                    replace H := ib H
                    rcases H with ⟨rfl, H⟩ | ⟨rfl, H⟩
                    · (try simp only [Bool.not_true, Bool.not_false])
                      simp only [Option.some.injEq, Prod.mk.injEq] at H
                      obtain ⟨rfl, rfl⟩ := H
                      go_wp2
                      go_ret2
                      exact ⟨_, rt, by (with_reducible repeat (first | apply Kd.R_alloc | apply Kd.R_drewN | apply Kd.R_drew)); exact Kd.R_mono HO408.out (fun _ hk => trivial), bw⟩
                    · (try simp only [Bool.not_true, Bool.not_false])
                      simp only [Option.some.injEq, Prod.mk.injEq] at H
                      obtain ⟨rfl, rfl⟩ := H
                      go_wp2
                      go_ret2
                      exact ⟨_, rt, by first | exact Kd.R_nil _ _ _ _ _ | exact Kd.N_nil _ _ _ _ _ | exact Kd.V_nil _ _ _ _ _ | exact Kd.Q_nil _ _ _ _ _ | exact Kd.S_nil _ _ _ _ _, bw⟩
                  · rw [if_neg c44] at H
                    exact absurd H (by simp)
                · rw [if_neg c41] at H
                  exact absurd H (by simp)
              · rw [if_neg c40] at H
                exact absurd H (by simp)
            · rw [if_neg c39] at H
              exact absurd H (by simp)
          · rw [if_neg c38] at H
            exact absurd H (by simp)
  · (try simp only [Bool.not_true, Bool.not_false])
    simp only [Option.some.injEq, Prod.mk.injEq] at H
    obtain ⟨rfl, rfl⟩ := H
    go_wp2
    go_ret2
    exact ⟨_, rt, by first | exact Kd.R_nil _ _ _ _ _ | exact Kd.N_nil _ _ _ _ _ | exact Kd.V_nil _ _ _ _ _ | exact Kd.Q_nil _ _ _ _ _ | exact Kd.S_nil _ _ _ _ _, bw⟩

end Go.Proofs.Ytobboonnfocalaa.PB1
