/- What functions of the program compute, each as a Lean function, and that the run comes to just that. Conditions: none. (Laid by this session's own program.) -/
import Derived.Test.YtobboonnfocalaaT
import Derived.Test.YtobboonnfocalaaT2
import Derived.Test.YtobboonnfocalaaPB1x0
namespace Go.Proofs.Ytobboonnfocalaa.PB1
open Go.RowKit Go.Proofs.YtobboonnfocalaaW.PrintWords Go.Proofs.YtobboonnfocalaaW.PrintLast Go.Proofs.YtobboonnfocalaaW.PrintMore Go.Proofs.Ytobboonnfocalaa.T
attribute [local go_sem] max2_int min2_int max_two min_two max_three min_three max_four min_four   -- for this text's walks alone
set_option linter.unusedVariables false
set_option linter.unusedSimpArgs false

/-! ### spec_MemNew: function 21 -/
def spec_MemNew.f (a0 : Int) : Option (List Int × Bool) := if a0 < 0 then (some (([] : List Int), false)) else (if a0 > 64 then (some (([] : List Int), false)) else (if 0 ≤ a0 then (if (a0 : Int).toNat ≤ 70368744177664 then (some ((List.replicate (a0 : Int).toNat 0), true)) else (none)) else (none)))
set_option maxHeartbeats 8000000 in
set_option maxRecDepth 100000 in
theorem spec_MemNew.calls (a0 : Int) (r1 : List Int) (r2 : Bool) (w : World) (h : spec_MemNew.f a0 = some (r1, r2)) :
    Calls Try.prog 21 #[.int .i64 a0] w fun e w' => ∃ v0_ : Value, e = .returned (.tuple #[.agg #[v0_], .bool r2]) ∧ Kd.R (Kd.int .u32) 53 w' w.heap.size (fun _ => True) v0_ r1 ∧ Below w.heap.size w w' := by
  have hu24 := Try.underlying24
  have HB := Aside0.mk (Below.refl w.heap.size w)
  unfold spec_MemNew.f at h
  have H := h
  clear h
  replace H := ilt H
  rcases H with ⟨c2b0, H⟩ | ⟨c2b0, H⟩
  · simp only [Option.some.injEq, Prod.mk.injEq] at H
    obtain ⟨rfl, rfl⟩ := H
    go_enter Try.func21, Try.ntmps21
    go_wp2_with (first | ((with_reducible refine gd 2 ?_); refine bx 2 24 #[.slice none 0 0] ?_; clear HB; intro gb101 w3 hg BK101 hb GE101 HB; clear hb hg; have z4_0 := ca1 BK101; have f4_0 := blk_frozen BK101.out 0))
    refine bodyPost_ret (results_ct rfl _ _ gb101 24 #[.slice none 0 0] (0, 0) _ rfl (bp BK101) Try.underlying24 rfl kr) rfl ?_
    exact ⟨_, rt, by first | exact Kd.R_nil _ _ _ _ _ | exact Kd.N_nil _ _ _ _ _ | exact Kd.V_nil _ _ _ _ _ | exact Kd.Q_nil _ _ _ _ _ | exact Kd.S_nil _ _ _ _ _, bw⟩
  · have HU5 := Aside0.mk H
    clear H
    go_enter Try.func21, Try.ntmps21
    go_upto_if 9 with (first | ((with_reducible refine gd 2 ?_); refine bx 2 24 #[.slice none 0 0] ?_; clear HB; intro gb101 w6 hg BK101 hb GE101 HB; clear hb hg))
    (try refine ap ?_)
    have H := HU5.out
    clear HU5
    replace H := igt H
    rcases H with ⟨c7b0, H⟩ | ⟨c7b0, H⟩
    · (first | rw [c7b0] | (simp only [i64_w, i32_w]; rw [c7b0]) | (simp only [c7b2, Bool.not_true, Bool.not_false]) | (simp only [c7b1, Bool.not_true, Bool.not_false]) | skip)
      simp only [Option.some.injEq, Prod.mk.injEq] at H
      obtain ⟨rfl, rfl⟩ := H
      have z8_0 := ca1 BK101
      have f8_0 := blk_frozen BK101.out 0
      go_wp2
      refine bodyPost_ret (results_ct rfl _ _ gb101 24 #[.slice none 0 0] (0, 0) _ rfl (bp BK101) Try.underlying24 rfl kr) rfl ?_
      exact ⟨_, rt, by first | exact Kd.R_nil _ _ _ _ _ | exact Kd.N_nil _ _ _ _ _ | exact Kd.V_nil _ _ _ _ _ | exact Kd.Q_nil _ _ _ _ _ | exact Kd.S_nil _ _ _ _ _, bw⟩
    · (first | rw [c7b0] | (simp only [i64_w, i32_w]; rw [c7b0]) | (simp only [c7b2, Bool.not_true, Bool.not_false]) | (simp only [c7b1, Bool.not_true, Bool.not_false]) | skip)
      by_cases c9 : 0 ≤ a0
      · rw [if_pos c9] at H
        have c9b0 := eq_true c9
        have c9b1 : decide (0 ≤ a0) = true := decide_eq_true c9
        clear c9
        by_cases c10 : (a0 : Int).toNat ≤ 70368744177664
        · rw [if_pos c10] at H
          have c10b0 := eq_true c10
          have c10b1 : decide ((a0 : Int).toNat ≤ 70368744177664) = true := decide_eq_true c10
          clear c10
          obtain ⟨y102, hy102⟩ : ∃ y_ : List Int, y_ = (List.replicate (a0 : Int).toNat 0) := ⟨_, rfl⟩
          rw [← hy102] at H
          try with_reducible replace H := bs H
          have Ny102 := Aside0.mk hy102
          clear hy102
          simp only [Option.some.injEq, Prod.mk.injEq] at H
          obtain ⟨rfl, rfl⟩ := H
          go_wp2_with (first | ((with_reducible refine gate_dst (N := 12) rfl ?_); refine Kd.R_make (Kd.int .u32) _ 53 rfl (N := 12) rfl 22 _ _ rfl a0 rfl rfl Try.underlying22 (.int .u32 0) 4 info53 rfl (by decide) (by omega) 0 (ok := fun _ => True) (okp := fun _ => True) rfl (fun _ hk => hk) trivial (of_decide_eq_true as_) (Nat.le_trans (Nat.mul_le_mul_right _ (of_decide_eq_true as_ : a0.toNat ≤ 70368744177664)) (by omega)) (Below.refl _ _) (Nat.le_refl _) ?_; intro v103 w11 ho12 hb hg_ hnew_; clear hg_ hnew_; (first | rw [← Ny102.out] at ho12 | (simp only [Int.reduceToNat] at ho12; rw [← Ny102.out] at ho12)); have HO104 := Aside0.mk (Kd.R_lower ho12 (below_size bw)); replace BK101 := b_ BK101 hb; replace HB := hs hb; clear hb ho12; obtain ⟨Ao13, co13, eo13⟩ := Kd.R_slice HO104.out; subst eo13; have z14_0 := ca1 BK101; have f14_0 := blk_frozen BK101.out 0))
          refine bodyPost_ret (results_ct rfl _ _ gb101 24 #[.slice Ao13 y102.length co13] (0, 0) _ rfl (bp BK101) Try.underlying24 rfl kr) rfl ?_
          exact ⟨_, rt, by (with_reducible repeat (first | apply Kd.R_alloc | apply Kd.R_drewN | apply Kd.R_drew)); exact Kd.R_mono (Kd.R_far (p := ⟨gb101, 0, none⟩) (Kd.R_types HO104.out BK101.out (by decide)) (fun _ hk => hk.2) (.slice Ao13 y102.length co13)) (fun _ hk => trivial), bw⟩
        · rw [if_neg c10] at H
          exact absurd H (by simp)
      · rw [if_neg c9] at H
        exact absurd H (by simp)

/-! ### spec_l07Row: function 45 -/
def spec_l07Row.l0 : Nat → Int → List Int → Int → Option (List Int)
  | 0, _, _, _ => none
  | k + 1, x0, x3, x4 => if x4 < 8 then (if x3.length < 17592186044416 then (spec_l07Row.l0 k x0 (x3 ++ [x0]) (wrap64 (x4 + 1))) else (none)) else (some x3)
def spec_l07Row.f (k : Nat) (a0 : Int) : Option (List Int) := spec_l07Row.l0 k a0 (([] : List Int)) 0
theorem spec_l07Row.mono_l : ∀ k, (∀ y0 y1 y2, LeO (spec_l07Row.l0 k y0 y1 y2) (spec_l07Row.l0 (k + 1) y0 y1 y2))
  | 0 => fun _ _ _ r h => by simp [spec_l07Row.l0] at h
  | k + 1 => by
    have ih0 := spec_l07Row.mono_l k
    · intro y0 y1 y2
      unfold spec_l07Row.l0
      repeat' first
        | (with_reducible first | exact ih0 .. | exact LeO.refl _ | exact LeO.none _ | refine LeO.ite ?_ ?_ | refine LeO.bind ?_ (fun _ => ?_))
        | exact LeO.none _ | refine LeO.ite ?_ ?_ | refine LeO.bind ?_ (fun _ => ?_)
theorem spec_l07Row.mono : ∀ a0 k, LeO (spec_l07Row.f k a0) (spec_l07Row.f (k + 1) a0) := by
  intro a0 k
  have ih0 := spec_l07Row.mono_l k
  unfold spec_l07Row.f
  repeat' first
    | (with_reducible first | exact ih0 .. | exact LeO.refl _ | exact LeO.none _ | refine LeO.ite ?_ ?_ | refine LeO.bind ?_ (fun _ => ?_))
    | exact LeO.none _ | refine LeO.ite ?_ ?_ | refine LeO.bind ?_ (fun _ => ?_)
set_option maxHeartbeats 8000000 in
set_option maxRecDepth 100000 in
theorem spec_l07Row.calls (k : Nat) (a0 : Int) (r : List Int) (w : World) (h : spec_l07Row.f k a0 = some r) :
    Calls Try.prog 45 #[.int .i64 a0] w fun e w' => ∃ v0_ : Value, e = .returned (v0_) ∧ Kd.R (Kd.int .i64) 3 w' w.heap.size (fun _ => True) v0_ r ∧ Below w.heap.size w w' := by
  have HB := Aside0.mk (Below.refl w.heap.size w)
  unfold spec_l07Row.f at h
  have H := h
  clear h
  obtain ⟨y105, hy105⟩ : ∃ y_ : List Int, y_ = (([] : List Int)) := ⟨_, rfl⟩
  rw [← hy105] at H
  try with_reducible replace H := bs H
  have Ny105 := Aside0.mk hy105
  clear hy105
  have H' := Aside0.mk H
  clear H
  go_enter Try.func45, Try.ntmps45
  go_wp2_with (first | ((with_reducible refine gate_dst (N := 5) rfl ?_); refine Kd.R_lit (Kd.int .i64) _ 3 ?hg (N := 5) ?hd (xs := ([] : List Int)) (inner := []) (ok := fun _ => True) (okp := fun _ => True) ?hr ?hp (fun _ hk => hk) trivial (Below.refl _ _) (Nat.le_refl _) (by simp) ?_; (case hd => rfl); (case hg => rfl); (case hr => first | (go_simp; done) | (go_simp; rfl)); (case hp => exact (Reps.none _ _)); intro v106 w2 ho3 hb hg_ hnew_; clear hg_ hnew_; (first | rw [← Ny105.out] at ho3 | (simp only [Int.reduceToNat] at ho3; rw [← Ny105.out] at ho3)); have HO107 := Aside0.mk (Kd.R_lower ho3 (below_size bw)); replace HB := hs hb; clear hb ho3))
  go_loopg [3, 4] k (fun kq v3 v4 w' => ∃ (x3_1 : List Int) (x4_1 : Int), v4 = .int .i64 x4_1 ∧ Aside0 (spec_l07Row.l0 kq a0 x3_1 x4_1 = some r) ∧ Aside0 (kq ≤ k) ∧ Aside0 (Kd.R (Kd.int .i64) 3 w' w.heap.size (fun _ => True) v3 x3_1) ∧ Aside0 (Below w.heap.size w w'))
  case atStart => exact ⟨(y105), (0), ev, H', ⟨Nat.le_refl _⟩, ⟨ro HO107⟩, ⟨bw⟩⟩
  case round =>
    clear H'
    obtain ⟨x3_1, x4_1, rfl, HA, HK1, HO_3, HB⟩ := hrel
    cases gk with
    | zero => exact absurd HA.out (by simp [spec_l07Row.l0])
    | succ k1 =>
      have H := HA.out
      clear HA
      simp only [spec_l07Row.l0] at H
      replace H := ilt H
      rcases H with ⟨c4b0, H⟩ | ⟨c4b0, H⟩
      · by_cases c5 : x3_1.length < 17592186044416
        · rw [if_pos c5] at H
          have LMc5 := Aside0.mk c5
          clear c5
          obtain ⟨y108, hy108⟩ : ∃ y_ : List Int, y_ = (x3_1 ++ [a0]) := ⟨_, rfl⟩
          rw [← hy108] at H
          try with_reducible replace H := bs H
          have Ny108 := Aside0.mk hy108
          clear hy108
          have H' := Aside0.mk H
          clear H
          go_wp2_with (first | ((with_reducible refine gate_builtin (b := .append) (xs := #[.tmp 10, .tmp 12]) rfl ?_); at_builtin; refine Kd.R_append (Kd.int .i64) (w0 := w) w.heap.size rfl (.tmp 10) (.tmp 12) 52 3 (.int .i64 0) 8 rfl Try.underlying52 info3 rfl (by decide) (by omega) u3 x3_1 a0 [.int .i64 a0] (fun _ => True) (fun _ => False) rfl rfl ?aP (fun _ hk => hk.elim) ?aF ?aO ?aB ?aS ?aL ?_; (case aP => exact rfl); (case aB => exact bw); (case aF => exact (fun _ _ => trivial)); (case aO => exact (ro HO_3)); (case aS => exact (below_size bw)); (case aL => have := LMc5.out; omega); intro v109 w6 ho hb hg hat; rw [← Ny108.out] at ho; have HO110 := Aside0.mk (ho); replace HB := Aside0.mk (hb); clear HO_3; clear ho hb hg hat))
          go_roundg k1
          case measure => have := HK1.out; omega
          case rel => exact ⟨(y108), (wrap64 (x4_1 + 1)), ev, H', ⟨oa HK1⟩, ⟨ro HO110⟩, ⟨bw⟩⟩
        · rw [if_neg c5] at H
          exact absurd H (by simp)
      · obtain rfl := Option.some.inj H
        go_wp2
        go_ret
        exact ⟨_, rt, ro HO_3, bw⟩

/-! ### spec_WarpNew: function 22 -/
def spec_WarpNew.f (k : Nat)  : Option (Int × List Int × List Int × Int × Int × Int × Int × Int) := (spec_l07Row.f k (-1)).bind fun t112 => ((spec_l07Row.f k (-1)).bind fun t115 => (some (0, t112, t115, 0, 0, 0, 0, 0)))
theorem spec_WarpNew.mono : ∀ k, LeO (spec_WarpNew.f k ) (spec_WarpNew.f (k + 1) ) := by
  intro  k
  unfold spec_WarpNew.f
  repeat' first
    | (with_reducible first | exact spec_l07Row.mono .. | exact LeO.refl _ | exact LeO.none _ | refine LeO.ite ?_ ?_ | refine LeO.bind ?_ (fun _ => ?_))
    | exact LeO.none _ | refine LeO.ite ?_ ?_ | refine LeO.bind ?_ (fun _ => ?_)
set_option maxHeartbeats 8000000 in
set_option maxRecDepth 100000 in
theorem spec_WarpNew.calls (k : Nat)  (r1 : Int) (r2 : List Int) (r3 : List Int) (r4 : Int) (r5 : Int) (r6 : Int) (r7 : Int) (r8 : Int) (w : World) (h : spec_WarpNew.f k  = some (r1, r2, r3, r4, r5, r6, r7, r8)) :
    Calls Try.prog 22 #[] w fun e w' => ∃ v1_ v2_ : Value, e = .returned (.agg #[.int .i64 r1, v1_, v2_, .int .u32 r4, .int .i64 r5, .int .i64 r6, .int .i64 r7, .int .u32 r8]) ∧ Kd.R (Kd.int .i64) 3 w' w.heap.size (fun k_ => some k_ ≠ (v2_ : Value).ownBlock) v1_ r2 ∧ Kd.R (Kd.int .i64) 3 w' w.heap.size (fun k_ => some k_ ≠ (v1_ : Value).ownBlock) v2_ r3 ∧ Below w.heap.size w w' := by
  have hu55 := Try.underlying55
  have HB := Aside0.mk (Below.refl w.heap.size w)
  unfold spec_WarpNew.f at h
  have H := h
  clear h
  replace H := bn H
  obtain ⟨t112, A1, H⟩ := H
  try dsimp only at H
  replace H := bn H
  obtain ⟨t115, A2, H⟩ := H
  try dsimp only at H
  simp only [Option.some.injEq, Prod.mk.injEq] at H
  obtain ⟨rfl, rfl, rfl, rfl, rfl, rfl, rfl, rfl⟩ := H
  go_enter Try.func22, Try.ntmps22
  go_wp2_with (first | ((with_reducible refine gd 0 ?_); refine bx 0 55 #[.int .i64 0, .slice none 0 0, .slice none 0 0, .int .u32 0, .int .i64 0, .int .i64 0, .int .i64 0, .int .u32 0] ?_; clear HB; intro gb111 w3 hg BK111 hb GE111 HB; clear hb hg) | ((with_reducible refine gf 45 ?_); refine gc Try.func45 (some 1) (spec_l07Row.calls _ _ _ _ A1.out) ?_; rintro e w4 ⟨v113, rfl, ho0, hb⟩; refine ⟨_, rfl, ?_⟩; have HO114 := Aside0.mk (Kd.R_lower ho0 (below_size bw)); replace BK111 := b_ BK111 hb; replace HB := hs hb; try clear hb; (try clear ho0)) | ((with_reducible refine gf 45 ?_); refine gc Try.func45 (some 2) (spec_l07Row.calls _ _ _ _ A2.out) ?_; rintro e w5 ⟨v116, rfl, ho0, hb⟩; refine ⟨_, rfl, ?_⟩; have HO117 := Aside0.mk (Kd.R_lower (Kd.R_new' ho0 (Kd.R_lt (ro HO114))) (below_size bw)); replace HO114 := Aside0.mk (Kd.R_elder' (ro HO114) (Kd.R_base ho0) hb); replace BK111 := b_ BK111 hb; replace HB := hs hb; try clear hb; (try clear ho0); obtain ⟨Ao6, co6, eo6⟩ := Kd.R_slice HO117.out; subst eo6; obtain ⟨Ao7, co7, eo7⟩ := Kd.R_slice HO114.out; subst eo7; obtain ⟨z8_0, z8_1, z8_2, z8_3, z8_4, z8_5, z8_6, z8_7⟩ := ca8 BK111; obtain ⟨f8_0, f8_1, f8_2, f8_3, f8_4, f8_5, f8_6, f8_7⟩ := fa8 BK111))
  refine bodyPost_ret (results_cell_row rfl _ _ gb111 55 #[.int .i64 0, .slice Ao7 t112.length co7, .slice Ao6 t115.length co6, .int .u32 0, .int .i64 0, .int .i64 0, .int .i64 0, .int .u32 0] (0, 0) _ rfl (bp BK111) Try.underlying55 rfl kr) rfl ?_
  exact ⟨_, _, rt, by (with_reducible repeat (first | apply Kd.R_alloc | apply Kd.R_drewN | apply Kd.R_drew)); exact Kd.R_mono (Kd.R_far (p := ⟨gb111, 7, none⟩) (Kd.R_far (p := ⟨gb111, 6, none⟩) (Kd.R_far (p := ⟨gb111, 5, none⟩) (Kd.R_far (p := ⟨gb111, 4, none⟩) (Kd.R_far (p := ⟨gb111, 3, none⟩) (Kd.R_far (p := ⟨gb111, 2, none⟩) (Kd.R_far (p := ⟨gb111, 1, none⟩) (Kd.R_far (p := ⟨gb111, 0, none⟩) (Kd.R_types HO114.out BK111.out (by decide)) (fun _ hk => hk.2) (.int .i64 0)) (fun _ hk => hk.2) (.slice Ao7 t112.length co7)) (fun _ hk => hk.2) (.slice Ao6 t115.length co6)) (fun _ hk => hk.2) (.int .u32 0)) (fun _ hk => hk.2) (.int .i64 0)) (fun _ hk => hk.2) (.int .i64 0)) (fun _ hk => hk.2) (.int .i64 0)) (fun _ hk => hk.2) (.int .u32 0)) (fun _ hk => hk.1.2), by (with_reducible repeat (first | apply Kd.R_alloc | apply Kd.R_drewN | apply Kd.R_drew)); exact Kd.R_mono (Kd.R_far (p := ⟨gb111, 7, none⟩) (Kd.R_far (p := ⟨gb111, 6, none⟩) (Kd.R_far (p := ⟨gb111, 5, none⟩) (Kd.R_far (p := ⟨gb111, 4, none⟩) (Kd.R_far (p := ⟨gb111, 3, none⟩) (Kd.R_far (p := ⟨gb111, 2, none⟩) (Kd.R_far (p := ⟨gb111, 1, none⟩) (Kd.R_far (p := ⟨gb111, 0, none⟩) (Kd.R_types HO117.out BK111.out (by decide)) (fun _ hk => hk.2) (.int .i64 0)) (fun _ hk => hk.2) (.slice Ao7 t112.length co7)) (fun _ hk => hk.2) (.slice Ao6 t115.length co6)) (fun _ hk => hk.2) (.int .u32 0)) (fun _ hk => hk.2) (.int .i64 0)) (fun _ hk => hk.2) (.int .i64 0)) (fun _ hk => hk.2) (.int .i64 0)) (fun _ hk => hk.2) (.int .u32 0)) (fun _ hk => hk.1.2), bw⟩

/-! ### spec_MachNew: function 5 -/
mutual
def spec_MachNew.j0 : Nat → Int → Int → Bool → Option (List Int × (List (S55)) × Bool)
  | 0, _, _, _ => none
  | k + 1, x0, x1, x21 => if x21 = true then (some (([] : List Int), ([] : List (S55)), false)) else ((spec_MemNew.f x0).bind fun bt120 => (spec_MachNew.l0 k x1 0 bt120.1 ([] : List (S55))))
def spec_MachNew.l0 : Nat → Int → Int → List Int → List (S55) → Option (List Int × (List (S55)) × Bool)
  | 0, _, _, _, _ => none
  | k + 1, x1, x7, x120000, x120001 => if x7 < x1 then ((spec_WarpNew.f k).bind fun bt124 => (if x120001.length < 1466015503701 then (spec_MachNew.l0 k x1 (wrap64 (x7 + 1)) x120000 (x120001 ++ [(⟨bt124.1, bt124.2.1, bt124.2.2.1, bt124.2.2.2.1, bt124.2.2.2.2.1, bt124.2.2.2.2.2.1, bt124.2.2.2.2.2.2.1, bt124.2.2.2.2.2.2.2⟩ : S55)])) else (none))) else (some (x120000, x120001, true))
end
def spec_MachNew.f (k : Nat) (a0 : Int) (a1 : Int) : Option (List Int × (List (S55)) × Bool) := if a0 < 0 then (spec_MachNew.j0 k a0 a1 true) else (if a0 > 16 then (spec_MachNew.j0 k a0 a1 true) else (if a1 < 1 then (spec_MachNew.j0 k a0 a1 true) else (spec_MachNew.j0 k a0 a1 (decide (a1 > 4)))))
theorem spec_MachNew.mono_l : ∀ k, (∀ y0 y1 y2, LeO (spec_MachNew.j0 k y0 y1 y2) (spec_MachNew.j0 (k + 1) y0 y1 y2)) ∧ (∀ y0 y1 y2 y3, LeO (spec_MachNew.l0 k y0 y1 y2 y3) (spec_MachNew.l0 (k + 1) y0 y1 y2 y3))
  | 0 => ⟨fun _ _ _ r h => by simp [spec_MachNew.j0] at h, fun _ _ _ _ r h => by simp [spec_MachNew.l0] at h⟩
  | k + 1 => by
    obtain ⟨ih0, ih1⟩ := spec_MachNew.mono_l k
    refine ⟨?_, ?_⟩
    · intro y0 y1 y2
      unfold spec_MachNew.j0
      repeat' first
        | (with_reducible first | exact ih0 .. | exact ih1 .. | exact spec_WarpNew.mono .. | exact LeO.refl _ | exact LeO.none _ | refine LeO.ite ?_ ?_ | refine LeO.bind ?_ (fun _ => ?_))
        | exact LeO.none _ | refine LeO.ite ?_ ?_ | refine LeO.bind ?_ (fun _ => ?_)
    · intro y0 y1 y2 y3
      unfold spec_MachNew.l0
      repeat' first
        | (with_reducible first | exact ih0 .. | exact ih1 .. | exact spec_WarpNew.mono .. | exact LeO.refl _ | exact LeO.none _ | refine LeO.ite ?_ ?_ | refine LeO.bind ?_ (fun _ => ?_))
        | exact LeO.none _ | refine LeO.ite ?_ ?_ | refine LeO.bind ?_ (fun _ => ?_)
theorem spec_MachNew.mono : ∀ a0 a1 k, LeO (spec_MachNew.f k a0 a1) (spec_MachNew.f (k + 1) a0 a1) := by
  intro a0 a1 k
  obtain ⟨ih0, ih1⟩ := spec_MachNew.mono_l k
  unfold spec_MachNew.f
  repeat' first
    | (with_reducible first | exact ih0 .. | exact ih1 .. | exact spec_WarpNew.mono .. | exact LeO.refl _ | exact LeO.none _ | refine LeO.ite ?_ ?_ | refine LeO.bind ?_ (fun _ => ?_))
    | exact LeO.none _ | refine LeO.ite ?_ ?_ | refine LeO.bind ?_ (fun _ => ?_)
set_option maxHeartbeats 8000000 in
set_option maxRecDepth 100000 in
theorem spec_MachNew.calls (k : Nat) (a0 : Int) (a1 : Int) (r1 : List Int) (r2 : List (S55)) (r3 : Bool) (w : World) (h : spec_MachNew.f k a0 a1 = some (r1, r2, r3)) :
    Calls Try.prog 5 #[.int .i64 a0, .int .i64 a1] w fun e w' => ∃ v0_ v1_ : Value, e = .returned (.tuple #[.agg #[v0_, v1_], .bool r3]) ∧ Kd.R (Kd.int .u32) 53 w' w.heap.size (fun _ => True) v0_ r1 ∧ Kd.S k55 55 w' w.heap.size (fun _ => True) v1_ r2 ∧ Below w.heap.size w w' := by
  have hu27 := Try.underlying27
  have hu24 := Try.underlying24
  have HB := Aside0.mk (Below.refl w.heap.size w)
  unfold spec_MachNew.f at h
  have H := h
  clear h
  have HC3 := Aside0.mk H
  clear H
  go_enter Try.func5, Try.ntmps5
  go_upto_region 1 with (first | ((with_reducible refine gd 4 ?_); refine bx 4 27 #[.slice none 0 0, .slice none 0 0] ?_; clear HB; intro gb118 w4 hg BK118 hb GE118 HB; clear hb hg))
  (try refine ap ?_)
  go_cut [21] (fun v21 wc => ∃ (kq : Nat) (x21_2 : Bool), v21 = .bool x21_2 ∧ Aside0 (spec_MachNew.j0 kq a0 a1 x21_2 = some (r1, r2, r3)) ∧ Aside0 (kq ≤ k) ∧ Aside0 (wc.heap[gb118]? = some (.cells #[(.slice none 0 0), (.slice none 0 0)] 27 (0, 0))) ∧ Aside0 (Below w.heap.size w wc))
  case first =>
    have H := HC3.out
    clear HC3
    replace H := ilt H
    rcases H with ⟨c5b0, H⟩ | ⟨c5b0, H⟩
    · (first | rw [c5b0] | (simp only [i64_w, i32_w]; rw [c5b0]) | (simp only [c5b2, Bool.not_true, Bool.not_false]) | (simp only [c5b1, Bool.not_true, Bool.not_false]) | skip)
      have H' := Aside0.mk H
      clear H
      go_wp2
      go_meet
      case rel => exact ⟨_, (true), ev, H', ⟨om⟩, ⟨bk BK118⟩, ⟨bw⟩⟩
    · (first | rw [c5b0] | (simp only [i64_w, i32_w]; rw [c5b0]) | (simp only [c5b2, Bool.not_true, Bool.not_false]) | (simp only [c5b1, Bool.not_true, Bool.not_false]) | skip)
      replace H := igt H
      rcases H with ⟨c6b0, H⟩ | ⟨c6b0, H⟩
      · have H' := Aside0.mk H
        clear H
        go_wp2
        go_meet
        case rel => exact ⟨_, (true), ev, H', ⟨om⟩, ⟨bk BK118⟩, ⟨bw⟩⟩
      · replace H := ilt H
        rcases H with ⟨c7b0, H⟩ | ⟨c7b0, H⟩
        · have H' := Aside0.mk H
          clear H
          go_wp2
          go_meet
          case rel => exact ⟨_, (true), ev, H', ⟨om⟩, ⟨bk BK118⟩, ⟨bw⟩⟩
        · have H' := Aside0.mk H
          clear H
          go_wp2
          go_meet
          case rel => exact ⟨_, (decide (a1 > 4)), ev, H', ⟨om⟩, ⟨bk BK118⟩, ⟨bw⟩⟩
  case rest =>
    clear HC3
    obtain ⟨kq, x21_2, rfl, HA, HJ2, BK118, HB⟩ := hcut
    cases kq with
    | zero => exact absurd HA.out (by simp [spec_MachNew.j0])
    | succ kj2 =>
      have H := HA.out
      clear HA
      simp only [spec_MachNew.j0] at H
      replace H := ib H
      rcases H with ⟨rfl, H⟩ | ⟨rfl, H⟩
      · simp only [Option.some.injEq, Prod.mk.injEq] at H
        obtain ⟨rfl, rfl, rfl⟩ := H
        obtain ⟨z9_0, z9_1⟩ := ca2 BK118
        obtain ⟨f9_0, f9_1⟩ := fa2 BK118
        go_wp2
        refine bodyPost_ret (results_ct rfl _ _ gb118 27 #[.slice none 0 0, .slice none 0 0] (0, 0) _ rfl (bp BK118) Try.underlying27 rfl kr) rfl ?_
        exact ⟨_, _, rt, by first | exact Kd.R_nil _ _ _ _ _ | exact Kd.N_nil _ _ _ _ _ | exact Kd.V_nil _ _ _ _ _ | exact Kd.Q_nil _ _ _ _ _ | exact Kd.S_nil _ _ _ _ _, by first | exact Kd.S_nil _ _ _ _ _ | exact Kd.N_nil _ _ _ _ _ | exact Kd.V_nil _ _ _ _ _ | exact Kd.Q_nil _ _ _ _ _ | exact Kd.R_nil _ _ _ _ _, bw⟩
      · replace H := bn H
        obtain ⟨⟨t120, t123⟩, A10, H⟩ := H
        try dsimp only at H
        have H' := Aside0.mk H
        clear H
        go_wp2_with (first | ((with_reducible refine gd 6 ?_); refine bx 6 27 #[.slice none 0 0, .slice none 0 0] ?_; clear HB; intro gb119 w11 hg BK119 hb GE119 HB; have NB118_119 := nl BK118 hg; have NB119_118 := ng BK118 hg; replace BK118 := b_ BK118 hb; clear hb hg; have hnb12 := NB119_118.out; have hnc12 := NB118_119.out; obtain ⟨z13_0, z13_1⟩ := ca2 BK119; obtain ⟨f13_0, f13_1⟩ := fa2 BK119) | ((with_reducible refine gf 21 ?_); refine gc Try.func21 (some 26) (spec_MemNew.calls _ _ _ _ A10.out) ?_; rintro e w14 ⟨v121, rfl, ho0, hb⟩; refine ⟨_, rfl, ?_⟩; have HO122 := Aside0.mk (Kd.R_lower ho0 (below_size bw)); replace BK118 := b_ BK118 hb; replace BK119 := bq BK119 #[.slice none 0 0, .slice none 0 0] hb; replace HB := hs hb; try clear hb; (try clear ho0); obtain ⟨Ao15, co15, eo15⟩ := Kd.R_slice HO122.out; subst eo15; obtain ⟨z16_0, z16_1⟩ := ca2 BK119; obtain ⟨f16_0, f16_1⟩ := fa2 BK119))
        go_loopg [7] kj2 (fun kq v7 w' => ∃ (x7_2 : Int) (x120001_2 : List (S55)) (u120001 : Value), v7 = .int .i64 x7_2 ∧ Aside0 (spec_MachNew.l0 kq a1 x7_2 t120 x120001_2 = some (r1, r2, r3)) ∧ Aside0 (kq ≤ kj2) ∧ Aside0 (Kd.R (Kd.int .u32) 53 w' w.heap.size (fun _ => True) (.slice Ao15 t120.length co15) t120) ∧ Aside0 (Kd.S k55 55 w' w.heap.size (fun _ => True) u120001 x120001_2) ∧ Aside0 (w'.heap[gb118]? = some (.cells #[(.slice none 0 0), (.slice none 0 0)] 27 (0, 0))) ∧ Aside0 (w'.heap[gb119]? = some (.cells #[(.slice Ao15 t120.length co15), u120001] 27 (0, 0))) ∧ Aside0 (Below w.heap.size w w'))
        case atStart => exact ⟨(0), (([] : List (S55))), (.slice none 0 0), ev, H', ⟨Nat.le_refl _⟩, ⟨by (with_reducible repeat (first | apply Kd.R_alloc | apply Kd.R_drewN | apply Kd.R_drew)); exact Kd.R_mono (Kd.R_far (p := ⟨gb119, 0, none⟩) (Kd.R_types HO122.out BK119.out (by decide)) (fun _ hk => hk.2) (.slice Ao15 t120.length co15)) (fun _ hk => trivial)⟩, ⟨by first | exact Kd.S_nil _ _ _ _ _ | exact Kd.N_nil _ _ _ _ _ | exact Kd.V_nil _ _ _ _ _ | exact Kd.Q_nil _ _ _ _ _ | exact Kd.R_nil _ _ _ _ _⟩, ⟨bk BK118⟩, ⟨bp BK119⟩, ⟨bw⟩⟩
        case round =>
          clear H'
          try clear c8
          (try clear z13_0 z13_1)
          (try clear z16_0 z16_1)
          (try clear f13_0 f13_1)
          (try clear f16_0 f16_1)
          obtain ⟨x7_2, x120001_2, u120001, rfl, HA, HK2, HO_120000, HO_120001, BK118, BK119, HB⟩ := hrel
          cases gk with
          | zero => exact absurd HA.out (by simp [spec_MachNew.l0])
          | succ k2 =>
            have H := HA.out
            clear HA
            simp only [spec_MachNew.l0] at H
            replace H := ilt H
            rcases H with ⟨c17b0, H⟩ | ⟨c17b0, H⟩
            · replace H := bn H
              obtain ⟨⟨t124, t125, t128, t131, t132, t133, t134, t135⟩, A18, H⟩ := H
              try dsimp only at H
              by_cases c19 : x120001_2.length < 1466015503701
              · rw [if_pos c19] at H
                have LMc19 := Aside0.mk c19
                clear c19
                obtain ⟨y136, hy136⟩ : ∃ y_ : List (S55), y_ = (x120001_2 ++ [(⟨t124, t125, t128, t131, t132, t133, t134, t135⟩ : S55)]) := ⟨_, rfl⟩
                rw [← hy136] at H
                try with_reducible replace H := bs H
                have Ny136 := Aside0.mk hy136
                clear hy136
                have H' := Aside0.mk H
                clear H
                try go_wp2
                replace HO_120000 := Aside0.mk (Kd.R_drew HO_120000.out)
                replace HO_120001 := Aside0.mk (Kd.S_drew HO_120001.out)
                replace BK118 := bd BK118
                replace BK119 := bd BK119
                replace HB := hd HB
                refine st0 7 (fun w' => CA w' gb119 0 [.slice Ao15 t120.length co15, u120001]) [6] (cx BK119) ?_; intro hHeld
                generalize wr.drew = w20 at HO_120000 HO_120001 BK118 BK119 HB hHeld ⊢
                refine pu 0 35 (bl 7 1) ?_
                refine tk 1 36 (bl 7 3) ?_
                refine on_ 2 (some 37) (bl 7 7) (fun K hK => ?_)
                refine gq Try.func22 (spec_WarpNew.calls _ _ _ _ _ _ _ _ _ _ A18.out) ?_
                rintro e w21 ⟨v126, v129, rfl, ho0, ho1, hb⟩
                refine ⟨_, rfl, ?_⟩
                replace HO_120000 := Aside0.mk (Kd.R_below (ro HO_120000) hb)
                replace HO_120001 := Aside0.mk (Kd.S_mono (Kd.S_told (Kd.S_told (Kd.S_old (by (with_reducible repeat (first | apply Kd.S_alloc | apply Kd.S_drewN | apply Kd.S_drew)); exact HO_120001.out) hb) (Kd.R_base ho0)) (Kd.R_base ho1)) (fun _ h_ => h_.1))
                have HO127 := Aside0.mk (Kd.R_lower ho0 (below_size bw))
                have HO130 := Aside0.mk (Kd.R_lower ho1 (below_size bw))
                replace BK118 := b_ BK118 hb
                replace BK119 := b_ BK119 hb
                replace HB := hs hb
                (try clear hb)
                (try clear hb2)
                (try clear hk)
                (try clear hi)
                (try clear ho0)
                (try clear ho1)
                obtain ⟨Ao23, co23, eo23⟩ := Kd.R_slice HO127.out
                (first | subst eo23 | (injection eo23 with f1_ f2_ f3_; have f4_ := f1_.symm; have f5_ := f3_.symm; clear f1_ f2_ f3_; subst f4_; subst f5_))
                obtain ⟨Ao24, co24, eo24⟩ := Kd.R_slice HO130.out
                (first | subst eo24 | (injection eo24 with f1_ f2_ f3_; have f4_ := f1_.symm; have f5_ := f3_.symm; clear f1_ f2_ f3_; subst f4_; subst f5_))
                refine hK.out _ _ (cx BK119) (fun hHeld => ?_)
                clear hK K
                refine nm ?_
                refine on_ 3 (some 38) (bl 7 15) (fun K hK => ?_)
                refine value_ (w1 := ?_) (v := ?_) (by rfl) rfl ?_ ?_
                rotate_left 2
                · go_simp
                  constructor
                  · rfl
                  · rfl
                refine hK.out _ _ ⟨(blk_cell (blk_alloc BK119.out _) 0).trans rfl, (blk_cell (blk_alloc BK119.out _) 1).trans rfl⟩ (fun hHeld => ?_)
                clear hK K
                refine nm ?_
                refine on_ 4 (some 39) (bl 7 31) (fun K hK => ?_)
                refine Kd.S_append_step k55 (w0 := w) w.heap.size (by rfl) (.tmp 36) (.tmp 38) 25 55 (.agg #[(.int .i64 0), (.slice none 0 0), (.slice none 0 0), (.int .u32 0), (.int .i64 0), (.int .i64 0), (.int .i64 0), (.int .u32 0)]) 96 rfl Try.underlying25 info55 rfl (by decide) (by omega) u120001 x120001_2 (⟨t124, t125, t128, t131, t132, t133, t134, t135⟩ : S55) [.int .i64 t124, .slice Ao23 t125.length co23, .slice Ao24 t128.length co24, .int .u32 t131, .int .i64 t132, .int .i64 t133, .int .i64 t134, .int .u32 t135] (fun _ => True) (fun k_ => some k_ = (.slice Ao23 t125.length co23 : Value).ownBlock ∨ some k_ = (.slice Ao24 t128.length co24 : Value).ownBlock) rfl rfl ?aP (fun k_ hk_ => hk_.elim (fun h_ => ((Kd.R_mono (ok' := fun k_ => ((fun _ => True)) k_ ∧ some k_ ≠ (u120001 : Value).ownBlock) (Kd.R_apart' (HO127.out) (Kd.S_typed HO_120001.out) (by decide)) (fun k_ hk => ⟨trivial, hk.2⟩))).1 k_ h_.symm) (fun h_ => ((Kd.R_mono (ok' := fun k_ => ((fun _ => True)) k_ ∧ some k_ ≠ (u120001 : Value).ownBlock) (Kd.R_apart' (HO130.out) (Kd.S_typed HO_120001.out) (by decide)) (fun k_ hk => ⟨trivial, hk.2⟩))).1 k_ h_.symm)) ?aF ?aO ?aB ?aS ?aL ?_
                (case aP => exact k55_mkM _ _ _ (⟨t124, t125, t128, t131, t132, t133, t134, t135⟩ : S55) (Kd.R_mono (Kd.R_tight rfl (Kd.R_mono (ok' := fun k_ => ((fun _ => True)) k_ ∧ some k_ ≠ (u120001 : Value).ownBlock) (Kd.R_apart' (HO127.out) (Kd.S_typed HO_120001.out) (by decide)) (fun k_ hk => ⟨trivial, hk.2⟩))) (fun _ h_ => Or.inl h_)) (Kd.R_mono (Kd.R_tight rfl (Kd.R_mono (ok' := fun k_ => ((fun _ => True)) k_ ∧ some k_ ≠ (u120001 : Value).ownBlock) (Kd.R_apart' (HO130.out) (Kd.S_typed HO_120001.out) (by decide)) (fun k_ hk => ⟨trivial, hk.2⟩))) (fun _ h_ => Or.inr (h_))))
                (case aB => exact bw)
                (case aF => exact (fun _ _ => trivial))
                (case aO => exact (by (with_reducible repeat (first | apply Kd.S_alloc | apply Kd.S_drewN | apply Kd.S_drew)); exact Kd.S_mono HO_120001.out (fun k_ hk => ⟨trivial, fun e_ => e_.elim (fun h_ => hk.1.2 h_) (fun h_ => hk.2 h_)⟩)))
                (case aS => exact (below_size bw))
                (case aL => have := LMc19.out; omega)
                intro v137 w22 ho hb hg hat
                rw [← Ny136.out] at ho
                replace HO_120000 := Aside0.mk (Kd.R_over' (ro HO_120000) (Kd.S_typed (by (with_reducible repeat (first | apply Kd.S_alloc | apply Kd.S_drewN | apply Kd.S_drew)); exact HO_120001.out)) (by decide) hg)
                replace BK118 := bg BK118 hg (Kd.S_ne HO_120001.out BK118.out (by decide))
                replace BK119 := bg BK119 hg (Kd.S_ne HO_120001.out BK119.out (by decide))
                have HO138 := Aside0.mk (ho)
                replace HB := Aside0.mk (hb)
                clear HO_120001 HO127 HO130
                clear ho hb hg hat
                obtain ⟨Ao25, co25, eo25⟩ := Kd.S_slice HO138.out
                (first | subst eo25 | (injection eo25 with f1_ f2_ f3_; have f4_ := f1_.symm; have f5_ := f3_.symm; clear f1_ f2_ f3_; subst f4_; subst f5_))
                refine hK.out _ _ (cx BK119) (fun hHeld => ?_)
                clear hK K
                refine nm ?_
                refine pu 5 40 (bl 7 63) ?_
                refine last_ (i := 6) (N := none) (bl 7 127) rfl rfl kr (by decide) (fun K hK => ?_)
                have hs26 : w22.cell? ⟨gb119, 1, none⟩ = some (u120001) := (blk_cell BK119.out 1).trans rfl
                have hfs26 := blk_frozen BK119.out 1
                have hns26_0 := NB118_119.out
                have hms26_0 := NB119_118.out
                refine skip_ (w1 := ?_) (by rfl) rfl ?_ ?_
                rotate_left
                · go_simp
                  rfl
                refine hK.out _ _ ?_
                clear hK K
                refine dn ?_ _
                try go_wp2
                go_roundg k2
                case measure => have := HJ2.out; have := HK2.out; omega
                case rel => exact ⟨(wrap64 (x7_2 + 1)), (y136), (.slice Ao25 y136.length co25), ev, H', ⟨by have := HJ2.out; have := HK2.out; omega⟩, ⟨by (with_reducible repeat (first | apply Kd.R_alloc | apply Kd.R_drewN | apply Kd.R_drew)); exact Kd.R_mono (Kd.R_far (p := ⟨gb119, 1, none⟩) (Kd.R_types HO_120000.out BK119.out (by decide)) (fun _ hk => hk.2) (.slice Ao25 y136.length co25)) (fun _ hk => trivial)⟩, ⟨by (with_reducible repeat (first | apply Kd.S_alloc | apply Kd.S_drewN | apply Kd.S_drew)); exact Kd.S_mono (Kd.S_far (p := ⟨gb119, 1, none⟩) (Kd.S_types HO138.out BK119.out (by decide)) (fun _ hk => hk.2) (.slice Ao25 y136.length co25)) (fun _ hk => trivial)⟩, ⟨bk BK118⟩, ⟨bp BK119⟩, ⟨bw⟩⟩
              · rw [if_neg c19] at H
                exact absurd H (by simp)
            · simp only [Option.some.injEq, Prod.mk.injEq] at H
              obtain ⟨rfl, rfl, rfl⟩ := H
              have hnb27 := NB119_118.out
              have hnc27 := NB118_119.out
              obtain ⟨z28_0, z28_1⟩ := ca2 BK119
              obtain ⟨f28_0, f28_1⟩ := fa2 BK119
              obtain ⟨z29_0, z29_1⟩ := ca2 BK118
              obtain ⟨f29_0, f29_1⟩ := fa2 BK118
              obtain ⟨Ao30, co30, eo30⟩ := Kd.S_slice HO_120001.out
              subst eo30
              go_wp2
              refine bodyPost_ret (results_ct rfl _ _ gb118 27 #[.slice Ao15 t120.length co15, .slice Ao30 x120001_2.length co30] (0, 0) _ rfl (bp BK118) Try.underlying27 rfl kr) rfl ?_
              exact ⟨_, _, rt, by (with_reducible repeat (first | apply Kd.R_alloc | apply Kd.R_drewN | apply Kd.R_drew)); exact Kd.R_mono (Kd.R_far (p := ⟨gb118, 1, none⟩) (Kd.R_far (p := ⟨gb118, 0, none⟩) (Kd.R_types HO_120000.out BK118.out (by decide)) (fun _ hk => hk.2) (.slice Ao15 t120.length co15)) (fun _ hk => hk.2) (.slice Ao30 x120001_2.length co30)) (fun _ hk => trivial), by (with_reducible repeat (first | apply Kd.S_alloc | apply Kd.S_drewN | apply Kd.S_drew)); exact Kd.S_mono (Kd.S_far (p := ⟨gb118, 1, none⟩) (Kd.S_far (p := ⟨gb118, 0, none⟩) (Kd.S_types HO_120001.out BK118.out (by decide)) (fun _ hk => hk.2) (.slice Ao15 t120.length co15)) (fun _ hk => hk.2) (.slice Ao30 x120001_2.length co30)) (fun _ hk => trivial), bw⟩

/-! ### bits_Mul32: function 59 -/
def bits_Mul32.f (a0 : Int) (a1 : Int) : Option (Int × Int) := some (((IntKind.u64.wrap ((IntKind.u64.wrap (a0)) * (IntKind.u64.wrap (a1)))) / 4294967296) % 4294967296, (IntKind.u64.wrap ((IntKind.u64.wrap (a0)) * (IntKind.u64.wrap (a1)))) % 4294967296)
set_option maxHeartbeats 8000000 in
set_option maxRecDepth 100000 in
theorem bits_Mul32.calls (a0 : Int) (a1 : Int) (r1 : Int) (r2 : Int) (w : World) (h : bits_Mul32.f a0 a1 = some (r1, r2)) :
    Calls Try.prog 59 #[.int .u32 a0, .int .u32 a1] w fun e w' => e = .returned (.tuple #[.int .u32 r1, .int .u32 r2]) ∧ Drawn0 w w' := by
  unfold bits_Mul32.f at h
  have H := h
  clear h
  simp only [Option.some.injEq, Prod.mk.injEq] at H
  obtain ⟨rfl, rfl⟩ := H
  go_enter Try.func59, Try.ntmps59
  go_wp2
  go_ret2
  exact ⟨ev, dr⟩

/-! ### bits_Mul64: function 60 -/
def bits_Mul64.f (a0 : Int) (a1 : Int) : Option (Int × Int) := some (IntKind.u64.wrap ((IntKind.u64.wrap ((IntKind.u64.wrap ((a0 / 4294967296) * (a1 / 4294967296))) + ((IntKind.u64.wrap ((IntKind.u64.wrap ((a0 / 4294967296) * (Go.bits .and .u64 a1 4294967295))) + ((IntKind.u64.wrap ((Go.bits .and .u64 a0 4294967295) * (Go.bits .and .u64 a1 4294967295))) / 4294967296))) / 4294967296))) + ((IntKind.u64.wrap ((Go.bits .and .u64 (IntKind.u64.wrap ((IntKind.u64.wrap ((a0 / 4294967296) * (Go.bits .and .u64 a1 4294967295))) + ((IntKind.u64.wrap ((Go.bits .and .u64 a0 4294967295) * (Go.bits .and .u64 a1 4294967295))) / 4294967296))) 4294967295) + (IntKind.u64.wrap ((Go.bits .and .u64 a0 4294967295) * (a1 / 4294967296))))) / 4294967296)), IntKind.u64.wrap (a0 * a1))
set_option maxHeartbeats 8000000 in
set_option maxRecDepth 100000 in
theorem bits_Mul64.calls (a0 : Int) (a1 : Int) (r1 : Int) (r2 : Int) (w : World) (h : bits_Mul64.f a0 a1 = some (r1, r2)) :
    Calls Try.prog 60 #[.int .u64 a0, .int .u64 a1] w fun e w' => e = .returned (.tuple #[.int .u64 r1, .int .u64 r2]) ∧ Drawn0 w w' := by
  unfold bits_Mul64.f at h
  have H := h
  clear h
  simp only [Option.some.injEq, Prod.mk.injEq] at H
  obtain ⟨rfl, rfl⟩ := H
  go_enter Try.func60, Try.ntmps60
  go_wp2
  go_ret2
  exact ⟨ev, dr⟩

/-! ### bits_Mul: function 56 -/
def bits_Mul.f (a0 : Int) (a1 : Int) : Option (Int × Int) := (bits_Mul64.f a0 a1).bind fun bt139 => (some (bt139.1, bt139.2))
set_option maxHeartbeats 8000000 in
set_option maxRecDepth 100000 in
theorem bits_Mul.calls (a0 : Int) (a1 : Int) (r1 : Int) (r2 : Int) (w : World) (h : bits_Mul.f a0 a1 = some (r1, r2)) :
    Calls Try.prog 56 #[.int .u64 a0, .int .u64 a1] w fun e w' => e = .returned (.tuple #[.int .u64 r1, .int .u64 r2]) ∧ Drawn0 w w' := by
  unfold bits_Mul.f at h
  have H := h
  clear h
  replace H := bn H
  obtain ⟨⟨t139, t140⟩, A3, H⟩ := H
  try dsimp only at H
  simp only [Option.some.injEq, Prod.mk.injEq] at H
  obtain ⟨rfl, rfl⟩ := H
  go_enter Try.func56, Try.ntmps56
  go_wp2_with (first | ((with_reducible refine gf 60 ?_); refine gc Try.func60 (some 25) (bits_Mul64.calls _ _ _ _ _ A3.out) ?_; rintro e w' ⟨rfl, ⟨nd, rfl⟩⟩; refine ⟨_, rfl, ?_⟩))
  go_ret2
  exact ⟨ev, dr⟩

/-! ### laws_eqUint32S: function 47 -/
def laws_eqUint32S.l0 : Nat → List Int → List Int → Int → Option (Bool)
  | 0, _, _, _ => none
  | k + 1, x0, x1, x5 => if x5 < (x0.length : Int) then (if 0 ≤ x5 then (if x5 < (x1.length : Int) then (if (rd x0 x5) = (rd x1 x5) then (laws_eqUint32S.l0 k x0 x1 (wrap64 (x5 + 1))) else (some false)) else (none)) else (none)) else (some true)
def laws_eqUint32S.f (k : Nat) (l0 : List Int) (l1 : List Int) : Option (Bool) := if (l0.length : Int) = (l1.length : Int) then (laws_eqUint32S.l0 k l0 l1 0) else (some false)
theorem laws_eqUint32S.mono_l : ∀ k, (∀ y0 y1 y2, LeO (laws_eqUint32S.l0 k y0 y1 y2) (laws_eqUint32S.l0 (k + 1) y0 y1 y2))
  | 0 => fun _ _ _ r h => by simp [laws_eqUint32S.l0] at h
  | k + 1 => by
    have ih0 := laws_eqUint32S.mono_l k
    · intro y0 y1 y2
      unfold laws_eqUint32S.l0
      repeat' first
        | (with_reducible first | exact ih0 .. | exact LeO.refl _ | exact LeO.none _ | refine LeO.ite ?_ ?_ | refine LeO.bind ?_ (fun _ => ?_))
        | exact LeO.none _ | refine LeO.ite ?_ ?_ | refine LeO.bind ?_ (fun _ => ?_)
theorem laws_eqUint32S.mono : ∀ a0 a1 k, LeO (laws_eqUint32S.f k a0 a1) (laws_eqUint32S.f (k + 1) a0 a1) := by
  intro a0 a1 k
  have ih0 := laws_eqUint32S.mono_l k
  unfold laws_eqUint32S.f
  repeat' first
    | (with_reducible first | exact ih0 .. | exact LeO.refl _ | exact LeO.none _ | refine LeO.ite ?_ ?_ | refine LeO.bind ?_ (fun _ => ?_))
    | exact LeO.none _ | refine LeO.ite ?_ ?_ | refine LeO.bind ?_ (fun _ => ?_)
set_option maxHeartbeats 8000000 in
set_option maxRecDepth 100000 in
theorem laws_eqUint32S.calls (k : Nat) (A0 : Option Addr) (c0 : Nat) (l0 : List Int) (A1 : Option Addr) (c1 : Nat) (l1 : List Int) (r : Bool) (w : World) (hr0 : Kd.C (Kd.int .u32) w A0 l0.length l0) (hc0 : l0.length ≤ c0) (hr1 : Kd.C (Kd.int .u32) w A1 l1.length l1) (hc1 : l1.length ≤ c1) (h : laws_eqUint32S.f k l0 l1 = some r) :
    Calls Try.prog 47 #[.slice A0 l0.length c0, .slice A1 l1.length c1] w fun e w' => e = .returned (.bool r) ∧ Drawn0 w w' := by
  have HR0 := Aside0.mk hr0
  have HC0 := Aside0.mk hc0
  clear hr0 hc0
  have HR1 := Aside0.mk hr1
  have HC1 := Aside0.mk hc1
  clear hr1 hc1
  unfold laws_eqUint32S.f at h
  have H := h
  clear h
  by_cases c3 : (l0.length : Int) = (l1.length : Int)
  · rw [if_pos c3] at H
    have c3b0 : ((l0.length : Int) == (l1.length : Int)) = true := beq_iff_eq.mpr c3
    have c3b1 : ((l0.length : Int) != (l1.length : Int)) = false := bne_eq_false_iff_eq.mpr c3
    have c3b2 : (l0.length == l1.length) = true := by first | simpa using c3 | (simp at c3 ⊢; omega)
    clear c3
    have H' := Aside0.mk H
    clear H
    go_enter Try.func47, Try.ntmps47
    go_wp2
    repeat (go_quiet (fail); try go_wp2)
    go_loopg [5] k (fun kq v5 w' => ∃ (x5_1 : Int), v5 = .int .i64 x5_1 ∧ Aside0 (laws_eqUint32S.l0 kq l0 l1 x5_1 = some r) ∧ Aside0 (kq ≤ k) ∧ Drawn0 w w')
    case atStart => exact ⟨(0), ev, H', ⟨Nat.le_refl _⟩, dr⟩
    case round =>
      clear H'
      try clear c1
      try clear c3
      try clear c3b0
      try clear c3b1
      try clear c3b2
      obtain ⟨x5_1, rfl, HA, HK1, ⟨m1, rfl⟩⟩ := hrel
      cases gk with
      | zero => exact absurd HA.out (by simp [laws_eqUint32S.l0])
      | succ k1 =>
        have H := HA.out
        clear HA
        simp only [laws_eqUint32S.l0] at H
        replace H := ilt H
        rcases H with ⟨c4b0, H⟩ | ⟨c4b0, H⟩
        · by_cases c5 : 0 ≤ x5_1
          · rw [if_pos c5] at H
            have c5b0 : decide (0 ≤ x5_1) = true := decide_eq_true c5
            clear c5
            by_cases c6 : x5_1 < (l1.length : Int)
            · rw [if_pos c6] at H
              have c6b0 : decide (x5_1 < (l1.length : Int)) = true := decide_eq_true c6
              clear c6
              replace H := ieq H
              rcases H with ⟨c7b0, c7b1, H⟩ | ⟨c7, c7b0, c7b1, H⟩
              · have H' := Aside0.mk H
                clear H
                have p163 : 0 ≤ (x5_1 : Int) := of_decide_eq_true as_
                have q163 : x5_1 < (l0.length : Int) := of_decide_eq_true as_
                obtain ⟨ad163, e163, hx163_0⟩ := Kd.at_int HR0.out x5_1 p163 q163
                cases e163
                replace p163 := eq_true p163
                replace q163 := eq_true q163
                have p164 : 0 ≤ (x5_1 : Int) := of_decide_eq_true as_
                have q164 : x5_1 < (l1.length : Int) := of_decide_eq_true as_
                obtain ⟨ad164, e164, hx164_0⟩ := Kd.at_int HR1.out x5_1 p164 q164
                cases e164
                replace p164 := eq_true p164
                replace q164 := eq_true q164
                go_wp2
                repeat (go_quiet (fail); try go_wp2)
                go_roundg k1
                case measure => have := HK1.out; omega
                case rel => exact ⟨(wrap64 (x5_1 + 1)), ev, H', ⟨oa HK1⟩, dr⟩
              · obtain rfl := Option.some.inj H
                have p163 : 0 ≤ (x5_1 : Int) := of_decide_eq_true as_
                have q163 : x5_1 < (l0.length : Int) := of_decide_eq_true as_
                obtain ⟨ad163, e163, hx163_0⟩ := Kd.at_int HR0.out x5_1 p163 q163
                cases e163
                replace p163 := eq_true p163
                replace q163 := eq_true q163
                have p164 : 0 ≤ (x5_1 : Int) := of_decide_eq_true as_
                have q164 : x5_1 < (l1.length : Int) := of_decide_eq_true as_
                obtain ⟨ad164, e164, hx164_0⟩ := Kd.at_int HR1.out x5_1 p164 q164
                cases e164
                replace p164 := eq_true p164
                replace q164 := eq_true q164
                go_wp2
                repeat (go_quiet (fail); try go_wp2)
                go_ret
                exact ⟨ev, dr⟩
            · rw [if_neg c6] at H
              exact absurd H (by simp)
          · rw [if_neg c5] at H
            exact absurd H (by simp)
        · obtain rfl := Option.some.inj H
          go_wp2
          repeat (go_quiet (fail); try go_wp2)
          go_ret
          exact ⟨ev, dr⟩
  · rw [if_neg c3] at H
    have c3b0 : ((l0.length : Int) == (l1.length : Int)) = false := beq_eq_false_iff_ne.mpr c3
    have c3b1 : ((l0.length : Int) != (l1.length : Int)) = true := bne_iff_ne.mpr c3
    have c3b2 : (l0.length == l1.length) = false := by first | simpa using c3 | (simp at c3 ⊢; omega)
    obtain rfl := Option.some.inj H
    go_enter Try.func47, Try.ntmps47
    go_wp2
    repeat (go_quiet (fail); try go_wp2)
    go_ret
    exact ⟨ev, dr⟩

/-! ### laws_eqMem: function 25 -/
def laws_eqMem.f (k : Nat) (l0_0 : List Int) (l1_0 : List Int) : Option (Bool) := (laws_eqUint32S.f k l0_0 l1_0).bind fun t167 => (if t167 = true then (some true) else (some false))
theorem laws_eqMem.mono : ∀ a0 a1 k, LeO (laws_eqMem.f k a0 a1) (laws_eqMem.f (k + 1) a0 a1) := by
  intro a0 a1 k
  unfold laws_eqMem.f
  repeat' first
    | (with_reducible first | exact laws_eqUint32S.mono .. | exact LeO.refl _ | exact LeO.none _ | refine LeO.ite ?_ ?_ | refine LeO.bind ?_ (fun _ => ?_))
    | exact LeO.none _ | refine LeO.ite ?_ ?_ | refine LeO.bind ?_ (fun _ => ?_)
set_option maxHeartbeats 8000000 in
set_option maxRecDepth 100000 in
theorem laws_eqMem.calls (k : Nat) (A0_0 : Option Addr) (c0_0 : Nat) (l0_0 : List Int) (A1_0 : Option Addr) (c1_0 : Nat) (l1_0 : List Int) (r : Bool) (w : World) (hr0_0 : Kd.C (Kd.int .u32) w A0_0 l0_0.length l0_0) (hc0_0 : l0_0.length ≤ c0_0) (hr1_0 : Kd.C (Kd.int .u32) w A1_0 l1_0.length l1_0) (hc1_0 : l1_0.length ≤ c1_0) (h : laws_eqMem.f k l0_0 l1_0 = some r) :
    Calls Try.prog 25 #[.agg #[.slice A0_0 l0_0.length c0_0], .agg #[.slice A1_0 l1_0.length c1_0]] w fun e w' => e = .returned (.bool r) ∧ Below w.heap.size w w' := by
  have hu24 := Try.underlying24
  have HR0_0 := Aside0.mk hr0_0
  have HC0_0 := Aside0.mk hc0_0
  clear hr0_0 hc0_0
  have HR1_0 := Aside0.mk hr1_0
  have HC1_0 := Aside0.mk hc1_0
  clear hr1_0 hc1_0
  have HB := Aside0.mk (Below.refl w.heap.size w)
  unfold laws_eqMem.f at h
  have H := h
  clear h
  replace H := bn H
  obtain ⟨t167, A3, H⟩ := H
  try dsimp only at H
  have HU4 := Aside0.mk H
  clear H
  go_enter Try.func25, Try.ntmps25
  go_upto_if 10 with (first | ((with_reducible refine gd 2 ?_); refine bx 2 24 #[.slice A0_0 l0_0.length c0_0] ?_; clear HB; intro gb165 w5 hg BK165 hb GE165 HB; clear hb hg) | ((with_reducible refine gd 3 ?_); refine bx 3 24 #[.slice A1_0 l1_0.length c1_0] ?_; clear HB; intro gb166 w6 hg BK166 hb GE166 HB; have NB165_166 := nl BK165 hg; have NB166_165 := ng BK165 hg; replace BK165 := b_ BK165 hb; clear hb hg; have hnb7 := NB165_166.out; have hnc7 := NB166_165.out; have z8_0 := ca1 BK165; have f8_0 := blk_frozen BK165.out 0; have z9_0 := ca1 BK166; have f9_0 := blk_frozen BK166.out 0) | ((with_reducible refine gf 47 ?_); refine gc Try.func47 (some 9) (laws_eqUint32S.calls _ A0_0 c0_0 _ A1_0 c1_0 _ _ _ (cb HR0_0) HC0_0.out (cb HR1_0) HC1_0.out A3.out) ?_; rintro e w' ⟨rfl, ⟨nd, rfl⟩⟩; refine ⟨_, rfl, ?_⟩))
  (try refine ap ?_)
  have H := HU4.out
  clear HU4
  replace H := ib H
  rcases H with ⟨rfl, H⟩ | ⟨rfl, H⟩
  · (try simp only [Bool.not_true, Bool.not_false])
    obtain rfl := Option.some.inj H
    go_wp2
    go_ret
    exact ⟨rt, bw⟩
  · (try simp only [Bool.not_true, Bool.not_false])
    obtain rfl := Option.some.inj H
    go_wp2
    go_ret
    exact ⟨rt, bw⟩

end Go.Proofs.Ytobboonnfocalaa.PB1
