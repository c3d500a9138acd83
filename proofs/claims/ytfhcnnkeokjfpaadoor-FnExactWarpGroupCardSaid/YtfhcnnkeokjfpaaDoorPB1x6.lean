/- What functions of the program compute, each as a Lean function, and that the run comes to just that. Conditions: none. (Laid by this session's own program.) -/
import Derived.Test.YtfhcnnkeokjfpaaDoorT
import Derived.Test.YtfhcnnkeokjfpaaDoorPB1x0
import Derived.Test.YtfhcnnkeokjfpaaDoorPB1x2
import Derived.Test.YtfhcnnkeokjfpaaDoorPB1x4
import Derived.Test.YtfhcnnkeokjfpaaDoorPB1x5
namespace Go.Proofs.YtfhcnnkeokjfpaaDoor.PB1
open Go.RowKit Go.Proofs.YtfhcnnkeokjfpaaDoorW.PrintWords Go.Proofs.YtfhcnnkeokjfpaaDoorW.PrintLast Go.Proofs.YtfhcnnkeokjfpaaDoorW.PrintMore Go.Proofs.YtfhcnnkeokjfpaaDoor.T
attribute [local go_sem] max2_int min2_int max_two min_two max_three min_three max_four min_four   -- for this text's walks alone
set_option linter.unusedVariables false
set_option linter.unusedSimpArgs false

/-! ### spec_CtlRead: function 66 -/
def spec_CtlRead.f (k : Nat) (a0 : Int) : Option (Int × Int × Int × Int × Bool) := (spec_CtlOk.f k (Int.tmod (wrap64 (Int.tdiv (wrap64 (a0)) 1048576)) 16) (Int.tmod (wrap64 (Int.tdiv (wrap64 (a0)) 65536)) 16) ((Int.tmod (wrap64 (a0)) 65536) % 4294967296) (wrap64 (Int.tdiv (wrap64 (a0)) 16777216))).bind fun t151 => (if t151 = true then (some (Int.tmod (wrap64 (Int.tdiv (wrap64 (a0)) 1048576)) 16, Int.tmod (wrap64 (Int.tdiv (wrap64 (a0)) 65536)) 16, (Int.tmod (wrap64 (a0)) 65536) % 4294967296, wrap64 (Int.tdiv (wrap64 (a0)) 16777216), true)) else (some (0, 0, 0, 0, false)))
theorem spec_CtlRead.mono : ∀ a0 k, LeO (spec_CtlRead.f k a0) (spec_CtlRead.f (k + 1) a0) := by
  intro a0 k
  unfold spec_CtlRead.f
  repeat' first
    | (with_reducible first | exact spec_CtlOk.mono .. | exact LeO.refl _ | exact LeO.none _ | refine LeO.ite ?_ ?_ | refine LeO.bind ?_ (fun _ => ?_))
    | exact LeO.none _ | refine LeO.ite ?_ ?_ | refine LeO.bind ?_ (fun _ => ?_)
set_option maxHeartbeats 2000000 in
set_option maxRecDepth 100000 in
theorem spec_CtlRead.calls (k : Nat) (a0 : Int) (r1 : Int) (r2 : Int) (r3 : Int) (r4 : Int) (r5 : Bool) (w : World) (h : spec_CtlRead.f k a0 = some (r1, r2, r3, r4, r5)) :
    Calls Tryd.prog 66 #[.int .u32 a0] w fun e w' => e = .returned (.tuple #[.agg #[.int .i64 r1, .int .i64 r2, .int .u32 r3, .int .i64 r4], .bool r5]) ∧ Below w.heap.size w w' := by
  have hu91 := Tryd.underlying91
  have HB := Aside0.mk (Below.refl w.heap.size w)
  unfold spec_CtlRead.f at h
  have H := h
  clear h
  replace H := bn H
  obtain ⟨t151, A2, H⟩ := H
  try dsimp only at H
  have HU3 := Aside0.mk H
  clear H
  go_enter Tryd.func66, Tryd.ntmps66
  go_upto_if 22 with (first | ((with_reducible refine gd 2 ?_); refine bx 2 91 #[.int .i64 0, .int .i64 0, .int .u32 0, .int .i64 0] ?_; clear HB; intro gb149 w4 hg BK149 hb GE149 HB; clear hb hg) | ((with_reducible refine gd 5 ?_); refine bx 5 91 #[.int .i64 0, .int .i64 0, .int .u32 0, .int .i64 0] ?_; clear HB; intro gb150 w5 hg BK150 hb GE150 HB; have NB149_150 := nl BK149 hg; have NB150_149 := ng BK149 hg; replace BK149 := b_ BK149 hb; clear hb hg; have hnb6 := NB150_149.out; have hnc6 := NB149_150.out; obtain ⟨z7_0, z7_1, z7_2, z7_3⟩ := ca4 BK150; obtain ⟨f7_0, f7_1, f7_2, f7_3⟩ := fa4 BK150) | ((with_reducible refine gf 99 ?_); refine gc Tryd.func99 (some 21) (spec_CtlOk.calls _ _ _ _ _ _ _ A2.out) ?_; rintro e w8 ⟨rfl, hb⟩; refine ⟨_, rfl, ?_⟩; replace BK149 := b_ BK149 hb; replace BK150 := bq BK150 #[.int .i64 (Int.tmod (wrap64 (Int.tdiv (wrap64 (a0)) 1048576)) 16), .int .i64 (Int.tmod (wrap64 (Int.tdiv (wrap64 (a0)) 65536)) 16), .int .u32 ((Int.tmod (wrap64 (a0)) 65536) % 4294967296), .int .i64 (wrap64 (Int.tdiv (wrap64 (a0)) 16777216))] hb; replace HB := hs hb; try clear hb))
  (try refine ap ?_)
  have H := HU3.out
  clear HU3
  replace H := ib H
  rcases H with ⟨rfl, H⟩ | ⟨rfl, H⟩
  · (try simp only [Bool.not_true, Bool.not_false])
    simp only [Option.some.injEq, Prod.mk.injEq] at H
    obtain ⟨rfl, rfl, rfl, rfl, rfl⟩ := H
    have hnb10 := NB150_149.out
    have hnc10 := NB149_150.out
    obtain ⟨z11_0, z11_1, z11_2, z11_3⟩ := ca4 BK150
    obtain ⟨f11_0, f11_1, f11_2, f11_3⟩ := fa4 BK150
    obtain ⟨z12_0, z12_1, z12_2, z12_3⟩ := ca4 BK149
    obtain ⟨f12_0, f12_1, f12_2, f12_3⟩ := fa4 BK149
    go_wp2
    refine bodyPost_ret (results_ct rfl _ _ gb149 91 #[.int .i64 (Int.tmod (wrap64 (Int.tdiv (wrap64 (a0)) 1048576)) 16), .int .i64 (Int.tmod (wrap64 (Int.tdiv (wrap64 (a0)) 65536)) 16), .int .u32 ((Int.tmod (wrap64 (a0)) 65536) % 4294967296), .int .i64 (wrap64 (Int.tdiv (wrap64 (a0)) 16777216))] (0, 0) _ rfl (bp BK149) Tryd.underlying91 rfl kr) rfl ?_
    exact ⟨rt, bw⟩
  · (try simp only [Bool.not_true, Bool.not_false])
    simp only [Option.some.injEq, Prod.mk.injEq] at H
    obtain ⟨rfl, rfl, rfl, rfl, rfl⟩ := H
    have hnb13 := NB149_150.out
    have hnc13 := NB150_149.out
    obtain ⟨z14_0, z14_1, z14_2, z14_3⟩ := ca4 BK149
    obtain ⟨f14_0, f14_1, f14_2, f14_3⟩ := fa4 BK149
    go_wp2
    refine bodyPost_ret (results_ct rfl _ _ gb149 91 #[.int .i64 0, .int .i64 0, .int .u32 0, .int .i64 0] (0, 0) _ rfl (bp BK149) Tryd.underlying91 rfl kr) rfl ?_
    exact ⟨rt, bw⟩

/-! ### spec_Ones: function 69 -/
def spec_Ones.f (k : Nat) (a0 : Int) : Option (Int) := (spec_BitList.f k a0).bind fun t152 => (some (t152.length : Int))
theorem spec_Ones.mono : ∀ a0 k, LeO (spec_Ones.f k a0) (spec_Ones.f (k + 1) a0) := by
  intro a0 k
  unfold spec_Ones.f
  repeat' first
    | (with_reducible first | exact spec_BitList.mono .. | exact LeO.refl _ | exact LeO.none _ | refine LeO.ite ?_ ?_ | refine LeO.bind ?_ (fun _ => ?_))
    | exact LeO.none _ | refine LeO.ite ?_ ?_ | refine LeO.bind ?_ (fun _ => ?_)
set_option maxHeartbeats 2000000 in
set_option maxRecDepth 100000 in
theorem spec_Ones.calls (k : Nat) (a0 : Int) (r : Int) (w : World) (h : spec_Ones.f k a0 = some r) :
    Calls Tryd.prog 69 #[.int .u32 a0] w fun e w' => e = .returned (.int .i64 r) ∧ Below w.heap.size w w' := by
  have HB := Aside0.mk (Below.refl w.heap.size w)
  unfold spec_Ones.f at h
  have H := h
  clear h
  replace H := bn H
  obtain ⟨t152, A2, H⟩ := H
  try dsimp only at H
  obtain rfl := Option.some.inj H
  go_enter Tryd.func69, Tryd.ntmps69
  go_wp2_with (first | ((with_reducible refine gf 35 ?_); refine gc Tryd.func35 (some 4) (spec_BitList.calls _ _ _ _ A2.out) ?_; rintro e w3 ⟨v153, rfl, ho0, hb⟩; refine ⟨_, rfl, ?_⟩; have HO154 := Aside0.mk (Kd.R_lower ho0 (below_size bw)); replace HB := hs hb; try clear hb; (try clear ho0); obtain ⟨Ao4, co4, eo4⟩ := Kd.R_slice HO154.out; subst eo4))
  go_ret
  exact ⟨rt, bw⟩

/-! ### spec_Room: function 38 -/
mutual
def spec_Room.j0 : Nat → Int → Bool → Int → Int → Int → Int → Option (Int)
  | 0, _, _, _, _, _, _ => none
  | k + 1, x1, x12, x161000, x161001, x161002, x161003 => if x12 = true then (some 0) else (if x161000 = 0 then ((spec_PerPage.f k x1).bind fun t162 => (some t162)) else (if x161000 = 1 then (spec_Room.j1 k x1 (x161001 == x1) x161000 x161001 x161002 x161003) else (spec_Room.j1 k x1 false x161000 x161001 x161002 x161003)))
def spec_Room.j1 : Nat → Int → Bool → Int → Int → Int → Int → Option (Int)
  | 0, _, _, _, _, _, _ => none
  | k + 1, x1, x26, x161000, x161001, x161002, x161003 => if x26 = true then ((spec_PerPage.f k x1).bind fun t163 => ((spec_Ones.f k x161002).bind fun t164 => (some (wrap64 (t163 - t164))))) else (some 0)
end
def spec_Room.f (k : Nat) (a0 : Int) (a1 : Int) : Option (Int) := (spec_CtlRead.f k a0).bind fun bt155 => (if bt155.2.2.2.2 = true then ((spec_l04Class.f a1).bind fun t161 => (spec_Room.j0 k a1 (!t161) bt155.1 bt155.2.1 bt155.2.2.1 bt155.2.2.2.1)) else (spec_Room.j0 k a1 true bt155.1 bt155.2.1 bt155.2.2.1 bt155.2.2.2.1))
theorem spec_Room.mono_l : ∀ k, (∀ y0 y1 y2 y3 y4 y5, LeO (spec_Room.j0 k y0 y1 y2 y3 y4 y5) (spec_Room.j0 (k + 1) y0 y1 y2 y3 y4 y5)) ∧ (∀ y0 y1 y2 y3 y4 y5, LeO (spec_Room.j1 k y0 y1 y2 y3 y4 y5) (spec_Room.j1 (k + 1) y0 y1 y2 y3 y4 y5))
  | 0 => ⟨fun _ _ _ _ _ _ r h => by simp [spec_Room.j0] at h, fun _ _ _ _ _ _ r h => by simp [spec_Room.j1] at h⟩
  | k + 1 => by
    obtain ⟨ih0, ih1⟩ := spec_Room.mono_l k
    refine ⟨?_, ?_⟩
    · intro y0 y1 y2 y3 y4 y5
      unfold spec_Room.j0
      repeat' first
        | (with_reducible first | exact ih0 .. | exact ih1 .. | exact spec_CtlRead.mono .. | exact spec_Ones.mono .. | exact spec_PerPage.mono .. | exact LeO.refl _ | exact LeO.none _ | refine LeO.ite ?_ ?_ | refine LeO.bind ?_ (fun _ => ?_))
        | exact LeO.none _ | refine LeO.ite ?_ ?_ | refine LeO.bind ?_ (fun _ => ?_)
    · intro y0 y1 y2 y3 y4 y5
      unfold spec_Room.j1
      repeat' first
        | (with_reducible first | exact ih0 .. | exact ih1 .. | exact spec_CtlRead.mono .. | exact spec_Ones.mono .. | exact spec_PerPage.mono .. | exact LeO.refl _ | exact LeO.none _ | refine LeO.ite ?_ ?_ | refine LeO.bind ?_ (fun _ => ?_))
        | exact LeO.none _ | refine LeO.ite ?_ ?_ | refine LeO.bind ?_ (fun _ => ?_)
theorem spec_Room.mono : ∀ a0 a1 k, LeO (spec_Room.f k a0 a1) (spec_Room.f (k + 1) a0 a1) := by
  intro a0 a1 k
  obtain ⟨ih0, ih1⟩ := spec_Room.mono_l k
  unfold spec_Room.f
  repeat' first
    | (with_reducible first | exact ih0 .. | exact ih1 .. | exact spec_CtlRead.mono .. | exact spec_Ones.mono .. | exact spec_PerPage.mono .. | exact LeO.refl _ | exact LeO.none _ | refine LeO.ite ?_ ?_ | refine LeO.bind ?_ (fun _ => ?_))
    | exact LeO.none _ | refine LeO.ite ?_ ?_ | refine LeO.bind ?_ (fun _ => ?_)
set_option maxHeartbeats 2000000 in
set_option maxRecDepth 100000 in
theorem spec_Room.calls (k : Nat) (a0 : Int) (a1 : Int) (r : Int) (w : World) (h : spec_Room.f k a0 a1 = some r) :
    Calls Tryd.prog 38 #[.int .u32 a0, .int .i64 a1] w fun e w' => e = .returned (.int .i64 r) ∧ Below w.heap.size w w' := by
  have hu91 := Tryd.underlying91
  have HB := Aside0.mk (Below.refl w.heap.size w)
  unfold spec_Room.f at h
  have H := h
  clear h
  replace H := bn H
  obtain ⟨⟨t155, t156, t157, t158, t159⟩, A3, H⟩ := H
  try dsimp only at H
  have HC4 := Aside0.mk H
  clear H
  go_enter Tryd.func38, Tryd.ntmps38
  go_upto_region 2 with (first | ((with_reducible refine gf 66 ?_); refine gc Tryd.func66 (some 9) (spec_CtlRead.calls _ _ _ _ _ _ _ _ A3.out) ?_; rintro e w5 ⟨rfl, hb⟩; refine ⟨_, rfl, ?_⟩; replace HB := hs hb; try clear hb) | ((with_reducible refine gd 5 ?_); refine bx 5 91 #[.int .i64 0, .int .i64 0, .int .u32 0, .int .i64 0] ?_; clear HB; intro gb160 w6 hg BK160 hb GE160 HB; clear hb hg; obtain ⟨z7_0, z7_1, z7_2, z7_3⟩ := ca4 BK160; obtain ⟨f7_0, f7_1, f7_2, f7_3⟩ := fa4 BK160))
  (try refine ap ?_)
  go_cut [12] (fun v12 wc => ∃ (kq : Nat) (x12_3 : Bool), v12 = .bool x12_3 ∧ Aside0 (spec_Room.j0 kq a1 x12_3 t155 t156 t157 t158 = some r) ∧ Aside0 (kq ≤ k) ∧ Aside0 (wc.heap[gb160]? = some (.cells #[.int .i64 t155, .int .i64 t156, .int .u32 t157, .int .i64 t158] 91 (0, 0))) ∧ Aside0 (Below w.heap.size w wc))
  case first =>
    have H := HC4.out
    clear HC4
    replace H := ib H
    rcases H with ⟨rfl, H⟩ | ⟨rfl, H⟩
    · (try simp only [Bool.not_true, Bool.not_false])
      replace H := bn H
      obtain ⟨t161, A9, H⟩ := H
      try dsimp only at H
      have H' := Aside0.mk H
      clear H
      go_wp2_with (first | (go_at_call 67; (with_reducible refine (spec_l04Class.calls _ _ _ A9.out).mono ?_); rintro e w' ⟨rfl, ⟨nd, rfl⟩⟩))
      go_meet
      case rel => exact ⟨_, (!t161), ev, H', ⟨om⟩, ⟨bp BK160⟩, ⟨bw⟩⟩
    · (try simp only [Bool.not_true, Bool.not_false])
      have H' := Aside0.mk H
      clear H
      go_wp2
      go_meet
      case rel => exact ⟨_, (true), ev, H', ⟨om⟩, ⟨bp BK160⟩, ⟨bw⟩⟩
  case rest =>
    clear HC4
    (try clear z7_0 z7_1 z7_2 z7_3)
    (try clear f7_0 f7_1 f7_2 f7_3)
    obtain ⟨kq, x12_3, rfl, HA, HJ3, BK160, HB⟩ := hcut
    cases kq with
    | zero => exact absurd HA.out (by simp [spec_Room.j0])
    | succ kj3 =>
      have H := HA.out
      clear HA
      simp only [spec_Room.j0] at H
      replace H := ib H
      rcases H with ⟨rfl, H⟩ | ⟨rfl, H⟩
      · obtain rfl := Option.some.inj H
        go_wp2
        go_ret
        exact ⟨rt, bw⟩
      · replace H := ieq H
        rcases H with ⟨c11b0, c11b1, H⟩ | ⟨c11, c11b0, c11b1, H⟩
        · replace H := bn H
          obtain ⟨t162, A12, H⟩ := H
          try dsimp only at H
          obtain rfl := Option.some.inj H
          obtain ⟨z13_0, z13_1, z13_2, z13_3⟩ := ca4 BK160
          obtain ⟨f13_0, f13_1, f13_2, f13_3⟩ := fa4 BK160
          go_wp2_with (first | ((with_reducible refine gf 68 ?_); refine gc Tryd.func68 (some 25) (spec_PerPage.calls _ _ _ _ A12.out) ?_; rintro e w' ⟨rfl, ⟨nd, rfl⟩⟩; refine ⟨_, rfl, ?_⟩))
          go_ret
          exact ⟨rt, bw⟩
        · have HC14 := Aside0.mk H
          clear H
          obtain ⟨z15_0, z15_1, z15_2, z15_3⟩ := ca4 BK160
          obtain ⟨f15_0, f15_1, f15_2, f15_3⟩ := fa4 BK160
          go_upto_region 6 with (fail)
          go_cut [26] (fun v26 wc => ∃ (kq : Nat) (x26_13 : Bool), v26 = .bool x26_13 ∧ Aside0 (spec_Room.j1 kq a1 x26_13 t155 t156 t157 t158 = some r) ∧ Aside0 (kq ≤ kj3) ∧ Aside0 (wc.heap[gb160]? = some (.cells #[.int .i64 t155, .int .i64 t156, .int .u32 t157, .int .i64 t158] 91 (0, 0))) ∧ Aside0 (Below w.heap.size w wc))
          case first =>
            have H := HC14.out
            clear HC14
            replace H := ieq H
            rcases H with ⟨c16b0, c16b1, H⟩ | ⟨c16, c16b0, c16b1, H⟩
            · (first | rw [c16b0] | (simp only [i64_w, i32_w]; rw [c16b0]) | (simp only [c16b2, Bool.not_true, Bool.not_false]) | (simp only [c16b1, Bool.not_true, Bool.not_false]) | skip)
              have H' := Aside0.mk H
              clear H
              obtain ⟨z17_0, z17_1, z17_2, z17_3⟩ := ca4 BK160
              obtain ⟨f17_0, f17_1, f17_2, f17_3⟩ := fa4 BK160
              go_wp2
              go_meet
              case rel => exact ⟨_, ((t156 == a1)), ev, H', ⟨by have := HJ3.out; first | omega | exact Nat.le_refl _⟩, ⟨bk BK160⟩, ⟨bw⟩⟩
            · (first | rw [c16b0] | (simp only [i64_w, i32_w]; rw [c16b0]) | (simp only [c16b2, Bool.not_true, Bool.not_false]) | (simp only [c16b1, Bool.not_true, Bool.not_false]) | skip)
              have H' := Aside0.mk H
              clear H
              obtain ⟨z18_0, z18_1, z18_2, z18_3⟩ := ca4 BK160
              obtain ⟨f18_0, f18_1, f18_2, f18_3⟩ := fa4 BK160
              go_wp2
              go_meet
              case rel => exact ⟨_, (false), ev, H', ⟨by have := HJ3.out; first | omega | exact Nat.le_refl _⟩, ⟨bk BK160⟩, ⟨bw⟩⟩
          case rest =>
            clear HC14
            try clear c10
            try clear c11
            try clear c11b0
            try clear c11b1
            (try clear z15_0 z15_1 z15_2 z15_3)
            (try clear z7_0 z7_1 z7_2 z7_3)
            (try clear f15_0 f15_1 f15_2 f15_3)
            (try clear f7_0 f7_1 f7_2 f7_3)
            obtain ⟨kq, x26_13, rfl, HA, HJ13, BK160, HB⟩ := hcut
            cases kq with
            | zero => exact absurd HA.out (by simp [spec_Room.j1])
            | succ kj13 =>
              have H := HA.out
              clear HA
              simp only [spec_Room.j1] at H
              replace H := ib H
              rcases H with ⟨rfl, H⟩ | ⟨rfl, H⟩
              · replace H := bn H
                obtain ⟨t163, A20, H⟩ := H
                try dsimp only at H
                replace H := bn H
                obtain ⟨t164, A21, H⟩ := H
                try dsimp only at H
                obtain rfl := Option.some.inj H
                try go_wp2
                replace BK160 := bd BK160
                replace HB := hd HB
                refine st0 7 (fun w' => CA w' gb160 0 [.int .i64 t155, .int .i64 t156, .int .u32 t157, .int .i64 t158]) [] (cx BK160) ?_; intro hHeld
                generalize wc.drew = w22 at BK160 HB hHeld ⊢
                refine pu 0 36 (bl 7 1) ?_
                refine pu 2 38 (bl 7 5) ?_
                refine tk 3 39 (bl 7 13) ?_
                refine on_ 1 (some 37) (bl 7 15) (fun K hK => ?_)
                refine gq Tryd.func68 (spec_PerPage.calls _ _ _ _ A20.out) ?_
                rintro e w' ⟨rfl, ⟨nd, rfl⟩⟩
                refine ⟨_, rfl, ?_⟩
                refine hK.out _ _ (cx BK160) (fun hHeld => ?_)
                clear hK K
                refine nm ?_
                refine on_ 4 (some 40) (bl 7 31) (fun K hK => ?_)
                refine gq Tryd.func69 (spec_Ones.calls _ _ _ _ A21.out) ?_
                rintro e w23 ⟨rfl, hb⟩
                refine ⟨_, rfl, ?_⟩
                replace BK160 := b_ BK160 hb
                replace HB := hs hb
                (try clear hb)
                (try clear hb2)
                (try clear hk)
                (try clear hi)
                refine hK.out _ _ (cx BK160) (fun hHeld => ?_)
                clear hK K
                refine nm ?_
                refine pu 5 41 (bl 7 63) ?_
                refine pu 6 4 (bl 7 127) ?_
                refine dn ?_ _
                try go_wp2
                go_ret
                exact ⟨rt, bw⟩
              · obtain rfl := Option.some.inj H
                go_wp2
                go_ret
                exact ⟨rt, bw⟩

/-! ### spec_ClassOf: function 39 -/
mutual
def spec_ClassOf.l0 : Nat → Int → Int → Option (Int)
  | 0, _, _ => none
  | k + 1, x0, x3 => if x3 < 5 then (spec_ClassOf.j1 k x0 x3 (decide (x0 ≥ 1))) else (spec_ClassOf.j1 k x0 x3 false)
def spec_ClassOf.j1 : Nat → Int → Int → Bool → Option (Int)
  | 0, _, _, _ => none
  | k + 1, x0, x3, x9 => if x9 = true then ((spec_l04Pow.f k x3).bind fun t165 => (if t165 ≥ x0 then (some x3) else (spec_ClassOf.l0 k x0 (wrap64 (x3 + 1))))) else (some (-1))
end
def spec_ClassOf.f (k : Nat) (a0 : Int) : Option (Int) := spec_ClassOf.l0 k a0 0
theorem spec_ClassOf.mono_l : ∀ k, (∀ y0 y1, LeO (spec_ClassOf.l0 k y0 y1) (spec_ClassOf.l0 (k + 1) y0 y1)) ∧ (∀ y0 y1 y2, LeO (spec_ClassOf.j1 k y0 y1 y2) (spec_ClassOf.j1 (k + 1) y0 y1 y2))
  | 0 => ⟨fun _ _ r h => by simp [spec_ClassOf.l0] at h, fun _ _ _ r h => by simp [spec_ClassOf.j1] at h⟩
  | k + 1 => by
    obtain ⟨ih0, ih1⟩ := spec_ClassOf.mono_l k
    refine ⟨?_, ?_⟩
    · intro y0 y1
      unfold spec_ClassOf.l0
      repeat' first
        | (with_reducible first | exact ih0 .. | exact ih1 .. | exact spec_l04Pow.mono .. | exact LeO.refl _ | exact LeO.none _ | refine LeO.ite ?_ ?_ | refine LeO.bind ?_ (fun _ => ?_))
        | exact LeO.none _ | refine LeO.ite ?_ ?_ | refine LeO.bind ?_ (fun _ => ?_)
    · intro y0 y1 y2
      unfold spec_ClassOf.j1
      repeat' first
        | (with_reducible first | exact ih0 .. | exact ih1 .. | exact spec_l04Pow.mono .. | exact LeO.refl _ | exact LeO.none _ | refine LeO.ite ?_ ?_ | refine LeO.bind ?_ (fun _ => ?_))
        | exact LeO.none _ | refine LeO.ite ?_ ?_ | refine LeO.bind ?_ (fun _ => ?_)
theorem spec_ClassOf.mono : ∀ a0 k, LeO (spec_ClassOf.f k a0) (spec_ClassOf.f (k + 1) a0) := by
  intro a0 k
  obtain ⟨ih0, ih1⟩ := spec_ClassOf.mono_l k
  unfold spec_ClassOf.f
  repeat' first
    | (with_reducible first | exact ih0 .. | exact ih1 .. | exact spec_l04Pow.mono .. | exact LeO.refl _ | exact LeO.none _ | refine LeO.ite ?_ ?_ | refine LeO.bind ?_ (fun _ => ?_))
    | exact LeO.none _ | refine LeO.ite ?_ ?_ | refine LeO.bind ?_ (fun _ => ?_)
set_option maxHeartbeats 2000000 in
set_option maxRecDepth 100000 in
theorem spec_ClassOf.calls (k : Nat) (a0 : Int) (r : Int) (w : World) (h : spec_ClassOf.f k a0 = some r) :
    Calls Tryd.prog 39 #[.int .i64 a0] w fun e w' => e = .returned (.int .i64 r) ∧ Drawn0 w w' := by
  unfold spec_ClassOf.f at h
  have H := h
  clear h
  have H' := Aside0.mk H
  clear H
  go_enter Tryd.func39, Tryd.ntmps39
  go_wp2
  go_loopg [3] k (fun kq v3 w' => ∃ (x3_1 : Int), v3 = .int .i64 x3_1 ∧ Aside0 (spec_ClassOf.l0 kq a0 x3_1 = some r) ∧ Aside0 (kq ≤ k) ∧ Drawn0 w w')
  case atStart => exact ⟨(0), ev, H', ⟨Nat.le_refl _⟩, dr⟩
  case round =>
    clear H'
    obtain ⟨x3_1, rfl, HA, HK1, ⟨m1, rfl⟩⟩ := hrel
    cases gk with
    | zero => exact absurd HA.out (by simp [spec_ClassOf.l0])
    | succ k1 =>
      have H := HA.out
      clear HA
      simp only [spec_ClassOf.l0] at H
      have HC2 := Aside0.mk H
      clear H
      go_upto_region 2 with (fail)
      go_cut [9] (fun v9 wc => ∃ (kq : Nat) (x9_1 : Bool), v9 = .bool x9_1 ∧ Aside0 (spec_ClassOf.j1 kq a0 x3_1 x9_1 = some r) ∧ Aside0 (kq ≤ k1) ∧ Drawn0 w wc)
      case first =>
        have H := HC2.out
        clear HC2
        replace H := ilt H
        rcases H with ⟨c3b0, H⟩ | ⟨c3b0, H⟩
        · (first | rw [c3b0] | (simp only [i64_w, i32_w]; rw [c3b0]) | (simp only [c3b2, Bool.not_true, Bool.not_false]) | (simp only [c3b1, Bool.not_true, Bool.not_false]) | skip)
          have H' := Aside0.mk H
          clear H
          go_wp2
          go_meet
          case rel => exact ⟨_, (decide (a0 ≥ 1)), ev, H', ⟨by have := HK1.out; first | omega | exact Nat.le_refl _⟩, dr⟩
        · (first | rw [c3b0] | (simp only [i64_w, i32_w]; rw [c3b0]) | (simp only [c3b2, Bool.not_true, Bool.not_false]) | (simp only [c3b1, Bool.not_true, Bool.not_false]) | skip)
          have H' := Aside0.mk H
          clear H
          go_wp2
          go_meet
          case rel => exact ⟨_, (false), ev, H', ⟨by have := HK1.out; first | omega | exact Nat.le_refl _⟩, dr⟩
      case rest =>
        clear HC2
        obtain ⟨kq, x9_1, rfl, HA, HJ1, ⟨mc1, rfl⟩⟩ := hcut
        cases kq with
        | zero => exact absurd HA.out (by simp [spec_ClassOf.j1])
        | succ kj1 =>
          have H := HA.out
          clear HA
          simp only [spec_ClassOf.j1] at H
          replace H := ib H
          rcases H with ⟨rfl, H⟩ | ⟨rfl, H⟩
          · replace H := bn H
            obtain ⟨t165, A5, H⟩ := H
            try dsimp only at H
            have HU6 := Aside0.mk H
            clear H
            go_upto_if 15 with (first | ((with_reducible refine gf 70 ?_); refine gc Tryd.func70 (some 13) (spec_l04Pow.calls _ _ _ _ A5.out) ?_; rintro e w' ⟨rfl, ⟨nd, rfl⟩⟩; refine ⟨_, rfl, ?_⟩))
            (try refine ap ?_)
            have H := HU6.out
            clear HU6
            replace H := ige H
            rcases H with ⟨c7b0, H⟩ | ⟨c7b0, H⟩
            · (first | rw [c7b0] | (simp only [i64_w, i32_w]; rw [c7b0]) | (simp only [c7b2, Bool.not_true, Bool.not_false]) | (simp only [c7b1, Bool.not_true, Bool.not_false]) | skip)
              obtain rfl := Option.some.inj H
              go_wp2
              go_ret
              exact ⟨ev, dr⟩
            · (first | rw [c7b0] | (simp only [i64_w, i32_w]; rw [c7b0]) | (simp only [c7b2, Bool.not_true, Bool.not_false]) | (simp only [c7b1, Bool.not_true, Bool.not_false]) | skip)
              have H' := Aside0.mk H
              clear H
              go_wp2
              go_roundg kj1
              case measure => have := HK1.out; have := HJ1.out; omega
              case rel => exact ⟨(wrap64 (x3_1 + 1)), ev, H', ⟨by have := HK1.out; have := HJ1.out; omega⟩, dr⟩
          · obtain rfl := Option.some.inj H
            go_wp2
            go_ret
            exact ⟨ev, dr⟩

/-! ### spec_l01Word: function 79 -/
def spec_l01Word.l0 : Nat → List Int → Int → Int → Option (Int)
  | 0, _, _, _ => none
  | k + 1, x0, x3, x4 => if x4 ≥ 0 then (if 0 ≤ x4 then (if x4 < (x0.length : Int) then (spec_l01Word.l0 k x0 ((((2 * x3) % 4294967296) + ((rd x0 x4) % 4294967296)) % 4294967296) (wrap64 (x4 - 1))) else (none)) else (none)) else (some x3)
def spec_l01Word.f (k : Nat) (l0 : List Int) : Option (Int) := spec_l01Word.l0 k l0 0 (wrap64 ((l0.length : Int) - 1))
theorem spec_l01Word.mono_l : ∀ k, (∀ y0 y1 y2, LeO (spec_l01Word.l0 k y0 y1 y2) (spec_l01Word.l0 (k + 1) y0 y1 y2))
  | 0 => fun _ _ _ r h => by simp [spec_l01Word.l0] at h
  | k + 1 => by
    have ih0 := spec_l01Word.mono_l k
    · intro y0 y1 y2
      unfold spec_l01Word.l0
      repeat' first
        | (with_reducible first | exact ih0 .. | exact LeO.refl _ | exact LeO.none _ | refine LeO.ite ?_ ?_ | refine LeO.bind ?_ (fun _ => ?_))
        | exact LeO.none _ | refine LeO.ite ?_ ?_ | refine LeO.bind ?_ (fun _ => ?_)
theorem spec_l01Word.mono : ∀ a0 k, LeO (spec_l01Word.f k a0) (spec_l01Word.f (k + 1) a0) := by
  intro a0 k
  have ih0 := spec_l01Word.mono_l k
  unfold spec_l01Word.f
  repeat' first
    | (with_reducible first | exact ih0 .. | exact LeO.refl _ | exact LeO.none _ | refine LeO.ite ?_ ?_ | refine LeO.bind ?_ (fun _ => ?_))
    | exact LeO.none _ | refine LeO.ite ?_ ?_ | refine LeO.bind ?_ (fun _ => ?_)
set_option maxHeartbeats 2000000 in
set_option maxRecDepth 100000 in
theorem spec_l01Word.calls (k : Nat) (A0 : Option Addr) (c0 : Nat) (l0 : List Int) (r : Int) (w : World) (hr0 : Kd.C (Kd.int .i64) w A0 l0.length l0) (hc0 : l0.length ≤ c0) (h : spec_l01Word.f k l0 = some r) :
    Calls Tryd.prog 79 #[.slice A0 l0.length c0] w fun e w' => e = .returned (.int .u32 r) ∧ Drawn0 w w' := by
  have HR0 := Aside0.mk hr0
  have HC0 := Aside0.mk hc0
  clear hr0 hc0
  unfold spec_l01Word.f at h
  have H := h
  clear h
  have H' := Aside0.mk H
  clear H
  go_enter Tryd.func79, Tryd.ntmps79
  go_wp2
  go_loopg [3, 4] k (fun kq v3 v4 w' => ∃ (x3_1 : Int) (x4_1 : Int), v3 = .int .u32 x3_1 ∧ v4 = .int .i64 x4_1 ∧ Aside0 (spec_l01Word.l0 kq l0 x3_1 x4_1 = some r) ∧ Aside0 (kq ≤ k) ∧ Drawn0 w w')
  case atStart => exact ⟨(0), (wrap64 ((l0.length : Int) - 1)), ev, ev, H', ⟨Nat.le_refl _⟩, dr⟩
  case round =>
    clear H'
    obtain ⟨x3_1, x4_1, rfl, rfl, HA, HK1, ⟨m1, rfl⟩⟩ := hrel
    cases gk with
    | zero => exact absurd HA.out (by simp [spec_l01Word.l0])
    | succ k1 =>
      have H := HA.out
      clear HA
      simp only [spec_l01Word.l0] at H
      replace H := ige H
      rcases H with ⟨c2b0, H⟩ | ⟨c2b0, H⟩
      · by_cases c3 : 0 ≤ x4_1
        · rw [if_pos c3] at H
          have c3b0 : decide (0 ≤ x4_1) = true := decide_eq_true c3
          clear c3
          by_cases c4 : x4_1 < (l0.length : Int)
          · rw [if_pos c4] at H
            have c4b0 : decide (x4_1 < (l0.length : Int)) = true := decide_eq_true c4
            clear c4
            have H' := Aside0.mk H
            clear H
            have p166 : 0 ≤ (x4_1 : Int) := of_decide_eq_true as_
            have q166 : x4_1 < (l0.length : Int) := of_decide_eq_true as_
            obtain ⟨ad166, e166, hx166_0⟩ := Kd.at_int HR0.out x4_1 p166 q166
            cases e166
            replace p166 := eq_true p166
            replace q166 := eq_true q166
            go_wp2
            go_roundg k1
            case measure => have := HK1.out; omega
            case rel => exact ⟨((((2 * x3_1) % 4294967296) + ((rd l0 x4_1) % 4294967296)) % 4294967296), (wrap64 (x4_1 - 1)), ev, ev, H', ⟨oa HK1⟩, dr⟩
          · rw [if_neg c4] at H
            exact absurd H (by simp)
        · rw [if_neg c3] at H
          exact absurd H (by simp)
      · obtain rfl := Option.some.inj H
        go_wp2
        go_ret
        exact ⟨ev, dr⟩

end Go.Proofs.YtfhcnnkeokjfpaaDoor.PB1
