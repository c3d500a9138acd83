/- What functions of the program compute, each as a Lean function, and that the run comes to just that. Conditions: none. -/
import Derived.Test.YtfhcnnkeokjfpaaDoorTS1
import Derived.Test.YtfhcnnkeokjfpaaDoorT2S1
import Derived.Test.YtfhcnnkeokjfpaaDoorPS1x0
import Derived.Test.YtfhcnnkeokjfpaaDoorPS1x1
namespace Go.Proofs.YtfhcnnkeokjfpaaDoor.PS1
open Go.RowKit Go.Proofs.YtfhcnnkeokjfpaaDoorW.PrintWords Go.Proofs.YtfhcnnkeokjfpaaDoorW.PrintLast Go.Proofs.YtfhcnnkeokjfpaaDoorW.PrintMore Go.Proofs.YtfhcnnkeokjfpaaDoor.T
attribute [local go_sem] max2_int min2_int max_two min_two max_three min_three max_four min_four   -- for this text's walks alone
set_option linter.unusedVariables false
set_option linter.unusedSimpArgs false

/-! ### laws_szReq: function 15 -/
def laws_szReq.f (a0_0 : Int) (l0_1 : List Int) (a1 : Int) : Option (Int) := (laws_szIntS.f l0_1 a1).bind fun t454 => (if t454 < 0 then (some (-1)) else (some t454))
set_option maxHeartbeats 8000000 in
set_option maxRecDepth 100000 in
theorem laws_szReq.calls (a0_0 : Int) (A0_1 : Option Addr) (c0_1 : Nat) (l0_1 : List Int) (a1 : Int) (r : Int) (w : World) (hr0_1 : Kd.C (Kd.int .i64) w A0_1 l0_1.length l0_1) (hc0_1 : l0_1.length ≤ c0_1) (h : laws_szReq.f a0_0 l0_1 a1 = some r) :
  Calls Tryd.prog 15 #[.agg #[.int .i64 a0_0, .slice A0_1 l0_1.length c0_1], .int .i64 a1] w fun e w' => e = .returned (.int .i64 r) ∧ Below w.heap.size w w' := by
 have hu35 := Tryd.underlying35
 have HR0_1 := Aside0.mk hr0_1
 have HC0_1 := Aside0.mk hc0_1
 clear hr0_1 hc0_1
 have HB := Aside0.mk (Below.refl w.heap.size w)
 unfold laws_szReq.f at h
 have H := h
 clear h
 replace H := bn H
 obtain ⟨t454, A3, H⟩ := H
 try dsimp only at H
 have HU4 := Aside0.mk H
 clear H
 go_enter Tryd.func15, Tryd.ntmps15
 go_upto_if 10 with (first | ((with_reducible refine gd 2 ?_); refine bx 2 35 #[.int .i64 a0_0, .slice A0_1 l0_1.length c0_1] ?_; clear HB; intro gb453 w5 hg BK453 hb GE453 HB; clear hb hg; obtain ⟨z6_0, z6_1⟩ := ca2 BK453; obtain ⟨f6_0, f6_1⟩ := fa2 BK453) | ((with_reducible refine gf 30 ?_); refine gc Tryd.func30 (some 8) (laws_szIntS.calls A0_1 c0_1 _ _ _ _ (cb HR0_1) HC0_1.out A3.out) ?_; rintro e w' ⟨rfl, ⟨nd, rfl⟩⟩; refine ⟨_, rfl, ?_⟩))
 (try refine ap ?_)
 have H := HU4.out
 clear HU4
 replace H := ilt H
 rcases H with ⟨c7b0, H⟩ | ⟨c7b0, H⟩
 ·(first | rw [c7b0] | (simp only [i64_w, i32_w]; rw [c7b0]) | (simp only [c7b2, Bool.not_true, Bool.not_false]) | (simp only [c7b1, Bool.not_true, Bool.not_false]) | skip)
  obtain rfl := Option.some.inj H
  go_wp2
  go_ret
  exact ⟨rt, bw⟩
 ·(first | rw [c7b0] | (simp only [i64_w, i32_w]; rw [c7b0]) | (simp only [c7b2, Bool.not_true, Bool.not_false]) | (simp only [c7b1, Bool.not_true, Bool.not_false]) | skip)
  obtain rfl := Option.some.inj H
  go_wp2
  go_ret
  exact ⟨rt, bw⟩

/-! ### spec_l07Row: function 83 -/
def spec_l07Row.l0 : Nat → Int → List Int → Int → Option (List Int)
 | 0, _, _, _ => none
 | k + 1, x0, x3, x4 => if x4 < 8 then (if x3.length < 17592186044416 then (spec_l07Row.l0 k x0 (x3 ++ [x0]) (wrap64 (x4 + 1))) else (none)) else (some x3)
def spec_l07Row.f (k : Nat) (a0 : Int) : Option (List Int) := spec_l07Row.l0 k a0 (([] : List Int)) 0
theorem spec_l07Row.mono_l : ∀ k, (∀ y0 y1 y2, LeO (spec_l07Row.l0 k y0 y1 y2) (spec_l07Row.l0 (k + 1) y0 y1 y2))
 | 0 => fun _ _ _ r h => by simp [spec_l07Row.l0] at h
 | k + 1 => by
  have ih0 := spec_l07Row.mono_l k
  ·intro y0 y1 y2
   unfold spec_l07Row.l0
   repeat' first
    | (with_reducible first | exact ih0 .. | exact LeO.refl _ | exact LeO.none _ | refine LeO.ite ?_ ?_ | refine LeO.bind ?_ (fun _ => ?_))
    | exact LeO.none _ | refine LeO.ite ?_ ?_ | refine LeO.bind ?_ (fun _ => ?_)
theorem spec_l07Row.mono : ∀ a0 k, LeO (spec_l07Row.f k a0) (spec_l07Row.f (k + 1) a0) := by
 intro a0 k
 have ih0 := spec_l07Row.mono_l k
 unfold spec_l07Row.f
 repeat' first
  | (with_reducible first | exact ih0 .. | exact LeO.refl _ | exact LeO.none _ | refine LeO.ite ?_ ?_ | refine LeO.bind ?_ (fun _ => ?_))
  | exact LeO.none _ | refine LeO.ite ?_ ?_ | refine LeO.bind ?_ (fun _ => ?_)
set_option maxHeartbeats 8000000 in
set_option maxRecDepth 100000 in
theorem spec_l07Row.calls (k : Nat) (a0 : Int) (r : List Int) (w : World) (h : spec_l07Row.f k a0 = some r) :
  Calls Tryd.prog 83 #[.int .i64 a0] w fun e w' => ∃ v0_ : Value, e = .returned (v0_) ∧ Kd.R (Kd.int .i64) 3 w' w.heap.size (fun _ => True) v0_ r ∧ Below w.heap.size w w' := by
 have HB := Aside0.mk (Below.refl w.heap.size w)
 unfold spec_l07Row.f at h
 have H := h
 clear h
 obtain ⟨y455, hy455⟩ : ∃ y_ : List Int, y_ = (([] : List Int)) := ⟨_, rfl⟩
 rw [← hy455] at H
 try with_reducible replace H := bs H
 have Ny455 := Aside0.mk hy455
 clear hy455
 have H' := Aside0.mk H
 clear H
 go_enter Tryd.func83, Tryd.ntmps83
 go_wp2_with (first | ((with_reducible refine gate_dst (N := 5) rfl ?_); refine Kd.R_lit (Kd.int .i64) _ 3 ?hg (N := 5) ?hd (xs := ([] : List Int)) (inner := []) (ok := fun _ => True) (okp := fun _ => True) ?hr ?hp (fun _ hk => hk) trivial (Below.refl _ _) (Nat.le_refl _) (by simp) ?_; (case hd => rfl); (case hg => rfl); (case hr => first | (go_simp; done) | (go_simp; rfl)); (case hp => exact (Reps.none _ _)); intro v456 w2 ho3 hb hg_ hnew_; clear hg_ hnew_; (first | rw [← Ny455.out] at ho3 | (simp only [Int.reduceToNat] at ho3; rw [← Ny455.out] at ho3)); have HO457 := Aside0.mk (Kd.R_lower ho3 (below_size bw)); replace HB := hs hb; clear hb ho3))
 go_loopg [3, 4] k (fun kq v3 v4 w' => ∃ (x3_1 : List Int) (x4_1 : Int), v4 = .int .i64 x4_1 ∧ Aside0 (spec_l07Row.l0 kq a0 x3_1 x4_1 = some r) ∧ Aside0 (kq ≤ k) ∧ Aside0 (Kd.R (Kd.int .i64) 3 w' w.heap.size (fun _ => True) v3 x3_1) ∧ Aside0 (Below w.heap.size w w'))
 case atStart => exact ⟨(y455), (0), ev, H', ⟨Nat.le_refl _⟩, ⟨ro HO457⟩, ⟨bw⟩⟩
 case round =>
  clear H'
  obtain ⟨x3_1, x4_1, rfl, HA, HK1, HO_3, HB⟩ := hrel
  cases gk with
  | zero => exact absurd HA.out (by simp [spec_l07Row.l0])
  | succ k1 =>
   have H := HA.out
   clear HA
   simp only [spec_l07Row.l0] at H
   replace H := ilt H
   rcases H with ⟨c4b0, H⟩ | ⟨c4b0, H⟩
   ·by_cases c5 : x3_1.length < 17592186044416
    ·rw [if_pos c5] at H
     have LMc5 := Aside0.mk c5
     clear c5
     obtain ⟨y458, hy458⟩ : ∃ y_ : List Int, y_ = (x3_1 ++ [a0]) := ⟨_, rfl⟩
     rw [← hy458] at H
     try with_reducible replace H := bs H
     have Ny458 := Aside0.mk hy458
     clear hy458
     have H' := Aside0.mk H
     clear H
     go_wp2_with (first | ((with_reducible refine gate_builtin (b := .append) (xs := #[.tmp 10, .tmp 12]) rfl ?_); at_builtin; refine Kd.R_append (Kd.int .i64) (w0 := w) w.heap.size rfl (.tmp 10) (.tmp 12) 22 3 (.int .i64 0) 8 rfl Tryd.underlying22 info3 rfl (by decide) (by omega) u3 x3_1 a0 [.int .i64 a0] (fun _ => True) (fun _ => False) rfl rfl ?aP (fun _ hk => hk.elim) ?aF ?aO ?aB ?aS ?aL ?_; (case aP => exact rfl); (case aB => exact bw); (case aF => exact (fun _ _ => trivial)); (case aO => exact (ro HO_3)); (case aS => exact (below_size bw)); (case aL => have := LMc5.out; omega); intro v459 w6 ho hb hg hat; rw [← Ny458.out] at ho; have HO460 := Aside0.mk (ho); replace HB := Aside0.mk (hb); clear HO_3; clear ho hb hg hat))
     go_roundg k1
     case measure => have := HK1.out; omega
     case rel => exact ⟨(y458), (wrap64 (x4_1 + 1)), ev, H', ⟨oa HK1⟩, ⟨ro HO460⟩, ⟨bw⟩⟩
    ·rw [if_neg c5] at H
     exact absurd H (by simp)
   ·obtain rfl := Option.some.inj H
    go_wp2
    go_ret
    exact ⟨_, rt, ro HO_3, bw⟩

/-! ### spec_WarpNew: function 47 -/
def spec_WarpNew.f (k : Nat)  : Option (Int × List Int × List Int × Int × Int × Int × Int × Int) := (spec_l07Row.f k (-1)).bind fun t462 => ((spec_l07Row.f k (-1)).bind fun t465 => (some (0, t462, t465, 0, 0, 0, 0, 0)))
theorem spec_WarpNew.mono : ∀ k, LeO (spec_WarpNew.f k ) (spec_WarpNew.f (k + 1) ) := by
 intro  k
 unfold spec_WarpNew.f
 repeat' first
  | (with_reducible first | exact spec_l07Row.mono .. | exact LeO.refl _ | exact LeO.none _ | refine LeO.ite ?_ ?_ | refine LeO.bind ?_ (fun _ => ?_))
  | exact LeO.none _ | refine LeO.ite ?_ ?_ | refine LeO.bind ?_ (fun _ => ?_)
set_option maxHeartbeats 8000000 in
set_option maxRecDepth 100000 in
theorem spec_WarpNew.calls (k : Nat)  (r1 : Int) (r2 : List Int) (r3 : List Int) (r4 : Int) (r5 : Int) (r6 : Int) (r7 : Int) (r8 : Int) (w : World) (h : spec_WarpNew.f k  = some (r1, r2, r3, r4, r5, r6, r7, r8)) :
  Calls Tryd.prog 47 #[] w fun e w' => ∃ v1_ v2_ : Value, e = .returned (.agg #[.int .i64 r1, v1_, v2_, .int .u32 r4, .int .i64 r5, .int .i64 r6, .int .i64 r7, .int .u32 r8]) ∧ Kd.R (Kd.int .i64) 3 w' w.heap.size (fun k_ => some k_ ≠ (v2_ : Value).ownBlock) v1_ r2 ∧ Kd.R (Kd.int .i64) 3 w' w.heap.size (fun k_ => some k_ ≠ (v1_ : Value).ownBlock) v2_ r3 ∧ Below w.heap.size w w' := by
 have hu28 := Tryd.underlying28
 have HB := Aside0.mk (Below.refl w.heap.size w)
 unfold spec_WarpNew.f at h
 have H := h
 clear h
 replace H := bn H
 obtain ⟨t462, A1, H⟩ := H
 try dsimp only at H
 replace H := bn H
 obtain ⟨t465, A2, H⟩ := H
 try dsimp only at H
 simp only [Option.some.injEq, Prod.mk.injEq] at H
 obtain ⟨rfl, rfl, rfl, rfl, rfl, rfl, rfl, rfl⟩ := H
 go_enter Tryd.func47, Tryd.ntmps47
 go_wp2_with (first | ((with_reducible refine gd 0 ?_); refine bx 0 28 #[.int .i64 0, .slice none 0 0, .slice none 0 0, .int .u32 0, .int .i64 0, .int .i64 0, .int .i64 0, .int .u32 0] ?_; clear HB; intro gb461 w3 hg BK461 hb GE461 HB; clear hb hg) | ((with_reducible refine gf 83 ?_); refine gc Tryd.func83 (some 1) (spec_l07Row.calls _ _ _ _ A1.out) ?_; rintro e w4 ⟨v463, rfl, ho0, hb⟩; refine ⟨_, rfl, ?_⟩; have HO464 := Aside0.mk (Kd.R_lower ho0 (below_size bw)); replace BK461 := b_ BK461 hb; replace HB := hs hb; try clear hb; (try clear ho0)) | ((with_reducible refine gf 83 ?_); refine gc Tryd.func83 (some 2) (spec_l07Row.calls _ _ _ _ A2.out) ?_; rintro e w5 ⟨v466, rfl, ho0, hb⟩; refine ⟨_, rfl, ?_⟩; have HO467 := Aside0.mk (Kd.R_lower (Kd.R_new' ho0 (Kd.R_lt (ro HO464))) (below_size bw)); replace HO464 := Aside0.mk (Kd.R_elder' (ro HO464) (Kd.R_base ho0) hb); replace BK461 := b_ BK461 hb; replace HB := hs hb; try clear hb; (try clear ho0); obtain ⟨Ao6, co6, eo6⟩ := Kd.R_slice HO467.out; subst eo6; obtain ⟨Ao7, co7, eo7⟩ := Kd.R_slice HO464.out; subst eo7; obtain ⟨z8_0, z8_1, z8_2, z8_3, z8_4, z8_5, z8_6, z8_7⟩ := ca8 BK461; obtain ⟨f8_0, f8_1, f8_2, f8_3, f8_4, f8_5, f8_6, f8_7⟩ := fa8 BK461))
 refine bodyPost_ret (results_cell_row rfl _ _ gb461 28 #[.int .i64 0, .slice Ao7 t462.length co7, .slice Ao6 t465.length co6, .int .u32 0, .int .i64 0, .int .i64 0, .int .i64 0, .int .u32 0] (0, 0) _ rfl (bp BK461) Tryd.underlying28 rfl kr) rfl ?_
 exact ⟨_, _, rt, by (with_reducible repeat (first | apply Kd.R_alloc | apply Kd.R_drewN | apply Kd.R_drew)); exact Kd.R_mono (Kd.R_far (p := ⟨gb461, 7, none⟩) (Kd.R_far (p := ⟨gb461, 6, none⟩) (Kd.R_far (p := ⟨gb461, 5, none⟩) (Kd.R_far (p := ⟨gb461, 4, none⟩) (Kd.R_far (p := ⟨gb461, 3, none⟩) (Kd.R_far (p := ⟨gb461, 2, none⟩) (Kd.R_far (p := ⟨gb461, 1, none⟩) (Kd.R_far (p := ⟨gb461, 0, none⟩) (Kd.R_types HO464.out BK461.out (by decide)) (fun _ hk => hk.2) (.int .i64 0)) (fun _ hk => hk.2) (.slice Ao7 t462.length co7)) (fun _ hk => hk.2) (.slice Ao6 t465.length co6)) (fun _ hk => hk.2) (.int .u32 0)) (fun _ hk => hk.2) (.int .i64 0)) (fun _ hk => hk.2) (.int .i64 0)) (fun _ hk => hk.2) (.int .i64 0)) (fun _ hk => hk.2) (.int .u32 0)) (fun _ hk => hk.1.2), by (with_reducible repeat (first | apply Kd.R_alloc | apply Kd.R_drewN | apply Kd.R_drew)); exact Kd.R_mono (Kd.R_far (p := ⟨gb461, 7, none⟩) (Kd.R_far (p := ⟨gb461, 6, none⟩) (Kd.R_far (p := ⟨gb461, 5, none⟩) (Kd.R_far (p := ⟨gb461, 4, none⟩) (Kd.R_far (p := ⟨gb461, 3, none⟩) (Kd.R_far (p := ⟨gb461, 2, none⟩) (Kd.R_far (p := ⟨gb461, 1, none⟩) (Kd.R_far (p := ⟨gb461, 0, none⟩) (Kd.R_types HO467.out BK461.out (by decide)) (fun _ hk => hk.2) (.int .i64 0)) (fun _ hk => hk.2) (.slice Ao7 t462.length co7)) (fun _ hk => hk.2) (.slice Ao6 t465.length co6)) (fun _ hk => hk.2) (.int .u32 0)) (fun _ hk => hk.2) (.int .i64 0)) (fun _ hk => hk.2) (.int .i64 0)) (fun _ hk => hk.2) (.int .i64 0)) (fun _ hk => hk.2) (.int .u32 0)) (fun _ hk => hk.1.2), bw⟩

/-! ### spec_WarpSubmit: function 16 -/
def spec_WarpSubmit.j0 : Nat → Bool → Int → List Int → Option (Int × List Int × List Int × Int × Int × Int × Int × Int × Bool)
 | 0, _, _, _ => none
 | k + 1, x19, x470000, x470001 => if x19 = true then (some (0, ([] : List Int), ([] : List Int), 0, 0, 0, 0, 0, false)) else ((spec_WarpNew.f k).bind fun bt473 => ((some (([] : List Int) : List Int)).bind fun y486 => (if y486.length + x470001.length < 17592186044416 then ((some (y486 ++ x470001 : List Int)).bind fun y489 => ((spec_l07Asks.f k x470000 x470001).bind fun t492 => ((spec_BitsOf.f k t492).bind fun bt495 => (if bt495.1 = 0 then (some (bt473.1, y489, bt473.2.2.1, bt495.1, bt473.2.2.2.2.1, bt473.2.2.2.2.2.1, bt473.2.2.2.2.2.2.1, bt473.2.2.2.2.2.2.2, true)) else (some (x470000, y489, bt473.2.2.1, bt495.1, bt473.2.2.2.2.1, bt473.2.2.2.2.2.1, bt473.2.2.2.2.2.2.1, bt473.2.2.2.2.2.2.2, true)))))) else (none))))
def spec_WarpSubmit.f (k : Nat) (a0_0 : Int) (l0_1 : List Int) (l0_2 : List Int) (a0_3 : Int) (a0_4 : Int) (a0_5 : Int) (a0_6 : Int) (a0_7 : Int) (a1_0 : Int) (l1_1 : List Int) : Option (Int × List Int × List Int × Int × Int × Int × Int × Int × Bool) := (spec_WarpOk.f k a0_0 l0_1 l0_2 a0_3 a0_4 a0_5 a0_6 a0_7 16).bind fun t471 => (if t471 = true then (if a0_0 = 0 then ((spec_ReqOk.f k a1_0 l1_1).bind fun t472 => (spec_WarpSubmit.j0 k (!t472) a1_0 l1_1)) else (spec_WarpSubmit.j0 k true a1_0 l1_1)) else (spec_WarpSubmit.j0 k true a1_0 l1_1))
theorem spec_WarpSubmit.mono_l : ∀ k, (∀ y0 y1 y2, LeO (spec_WarpSubmit.j0 k y0 y1 y2) (spec_WarpSubmit.j0 (k + 1) y0 y1 y2))
 | 0 => fun _ _ _ r h => by simp [spec_WarpSubmit.j0] at h
 | k + 1 => by
  have ih0 := spec_WarpSubmit.mono_l k
  ·intro y0 y1 y2
   unfold spec_WarpSubmit.j0
   repeat' first
    | (with_reducible first | exact ih0 .. | exact spec_BitsOf.mono .. | exact spec_ReqOk.mono .. | exact spec_WarpNew.mono .. | exact spec_WarpOk.mono .. | exact spec_l07Asks.mono .. | exact LeO.refl _ | exact LeO.none _ | refine LeO.ite ?_ ?_ | refine LeO.bind ?_ (fun _ => ?_))
    | exact LeO.none _ | refine LeO.ite ?_ ?_ | refine LeO.bind ?_ (fun _ => ?_)
theorem spec_WarpSubmit.mono : ∀ a0 a1 a2 a3 a4 a5 a6 a7 a8 a9 k, LeO (spec_WarpSubmit.f k a0 a1 a2 a3 a4 a5 a6 a7 a8 a9) (spec_WarpSubmit.f (k + 1) a0 a1 a2 a3 a4 a5 a6 a7 a8 a9) := by
 intro a0 a1 a2 a3 a4 a5 a6 a7 a8 a9 k
 have ih0 := spec_WarpSubmit.mono_l k
 unfold spec_WarpSubmit.f
 repeat' first
  | (with_reducible first | exact ih0 .. | exact spec_BitsOf.mono .. | exact spec_ReqOk.mono .. | exact spec_WarpNew.mono .. | exact spec_WarpOk.mono .. | exact spec_l07Asks.mono .. | exact LeO.refl _ | exact LeO.none _ | refine LeO.ite ?_ ?_ | refine LeO.bind ?_ (fun _ => ?_))
  | exact LeO.none _ | refine LeO.ite ?_ ?_ | refine LeO.bind ?_ (fun _ => ?_)
set_option maxHeartbeats 8000000 in
set_option maxRecDepth 100000 in
theorem spec_WarpSubmit.calls (k : Nat) (a0_0 : Int) (A0_1 : Option Addr) (c0_1 : Nat) (l0_1 : List Int) (A0_2 : Option Addr) (c0_2 : Nat) (l0_2 : List Int) (a0_3 : Int) (a0_4 : Int) (a0_5 : Int) (a0_6 : Int) (a0_7 : Int) (a1_0 : Int) (A1_1 : Option Addr) (c1_1 : Nat) (l1_1 : List Int) (r1 : Int) (r2 : List Int) (r3 : List Int) (r4 : Int) (r5 : Int) (r6 : Int) (r7 : Int) (r8 : Int) (r9 : Bool) (w : World) (hr0_1 : Kd.C (Kd.int .i64) w A0_1 l0_1.length l0_1) (hc0_1 : l0_1.length ≤ c0_1) (hr0_2 : Kd.C (Kd.int .i64) w A0_2 l0_2.length l0_2) (hc0_2 : l0_2.length ≤ c0_2) (hr1_1 : Kd.C (Kd.int .i64) w A1_1 l1_1.length l1_1) (hc1_1 : l1_1.length ≤ c1_1) (h : spec_WarpSubmit.f k a0_0 l0_1 l0_2 a0_3 a0_4 a0_5 a0_6 a0_7 a1_0 l1_1 = some (r1, r2, r3, r4, r5, r6, r7, r8, r9)) :
  Calls Tryd.prog 16 #[.agg #[.int .i64 a0_0, .slice A0_1 l0_1.length c0_1, .slice A0_2 l0_2.length c0_2, .int .u32 a0_3, .int .i64 a0_4, .int .i64 a0_5, .int .i64 a0_6, .int .u32 a0_7], .agg #[.int .i64 a1_0, .slice A1_1 l1_1.length c1_1]] w fun e w' => ∃ v1_ v2_ : Value, e = .returned (.tuple #[.agg #[.int .i64 r1, v1_, v2_, .int .u32 r4, .int .i64 r5, .int .i64 r6, .int .i64 r7, .int .u32 r8], .bool r9]) ∧ Kd.R (Kd.int .i64) 3 w' w.heap.size (fun k_ => some k_ ≠ (v2_ : Value).ownBlock) v1_ r2 ∧ Kd.R (Kd.int .i64) 3 w' w.heap.size (fun k_ => some k_ ≠ (v1_ : Value).ownBlock) v2_ r3 ∧ Below w.heap.size w w' := by
 have hu28 := Tryd.underlying28
 have hu39 := Tryd.underlying39
 have HR0_1 := Aside0.mk hr0_1
 have HC0_1 := Aside0.mk hc0_1
 clear hr0_1 hc0_1
 have HR0_2 := Aside0.mk hr0_2
 have HC0_2 := Aside0.mk hc0_2
 clear hr0_2 hc0_2
 have HR1_1 := Aside0.mk hr1_1
 have HC1_1 := Aside0.mk hc1_1
 clear hr1_1 hc1_1
 have HB := Aside0.mk (Below.refl w.heap.size w)
 unfold spec_WarpSubmit.f at h
 have H := h
 clear h
 have HC3 := Aside0.mk H
 clear H
 go_enter Tryd.func16, Tryd.ntmps16
 go_upto_region 1 with (first | ((with_reducible refine gd 2 ?_); refine bx 2 28 #[.int .i64 a0_0, .slice A0_1 l0_1.length c0_1, .slice A0_2 l0_2.length c0_2, .int .u32 a0_3, .int .i64 a0_4, .int .i64 a0_5, .int .i64 a0_6, .int .u32 a0_7] ?_; clear HB; intro gb468 w4 hg BK468 hb GE468 HB; clear hb hg) | ((with_reducible refine gd 3 ?_); refine bx 3 39 #[.int .i64 a1_0, .slice A1_1 l1_1.length c1_1] ?_; clear HB; intro gb469 w5 hg BK469 hb GE469 HB; have NB468_469 := nl BK468 hg; have NB469_468 := ng BK468 hg; replace BK468 := b_ BK468 hb; clear hb hg) | ((with_reducible refine gd 4 ?_); refine bx 4 28 #[.int .i64 0, .slice none 0 0, .slice none 0 0, .int .u32 0, .int .i64 0, .int .i64 0, .int .i64 0, .int .u32 0] ?_; clear HB; intro gb470 w6 hg BK470 hb GE470 HB; have NB468_470 := nl BK468 hg; have NB470_468 := ng BK468 hg; replace BK468 := b_ BK468 hb; have NB469_470 := nl BK469 hg; have NB470_469 := ng BK469 hg; replace BK469 := b_ BK469 hb; clear hb hg))
 (try refine ap ?_)
 go_cut [19] (fun v19 wc => ∃ (kq : Nat) (x19_2 : Bool), v19 = .bool x19_2 ∧ Aside0 (spec_WarpSubmit.j0 kq x19_2 a1_0 l1_1 = some (r1, r2, r3, r4, r5, r6, r7, r8, r9)) ∧ Aside0 (kq ≤ k) ∧ Aside0 (wc.heap[gb468]? = some (.cells #[.int .i64 a0_0, (.slice A0_1 l0_1.length c0_1), (.slice A0_2 l0_2.length c0_2), .int .u32 a0_3, .int .i64 a0_4, .int .i64 a0_5, .int .i64 a0_6, .int .u32 a0_7] 28 (0, 0))) ∧ Aside0 (wc.heap[gb469]? = some (.cells #[.int .i64 a1_0, (.slice A1_1 l1_1.length c1_1)] 39 (0, 0))) ∧ Aside0 (wc.heap[gb470]? = some (.cells #[.int .i64 0, (.slice none 0 0), (.slice none 0 0), .int .u32 0, .int .i64 0, .int .i64 0, .int .i64 0, .int .u32 0] 28 (0, 0))) ∧ Aside0 (Below w.heap.size w wc))
 case first =>
  have H := HC3.out
  clear HC3
  replace H := bn H
  obtain ⟨t471, A7, H⟩ := H
  try dsimp only at H
  replace H := ib H
  rcases H with ⟨rfl, H⟩ | ⟨rfl, H⟩
  ·(try simp only [Bool.not_true, Bool.not_false])
   replace H := ieq H
   rcases H with ⟨c9b0, c9b1, H⟩ | ⟨c9, c9b0, c9b1, H⟩
   ·replace H := bn H
    obtain ⟨t472, A10, H⟩ := H
    try dsimp only at H
    have H' := Aside0.mk H
    clear H
    have hnb11 := NB468_469.out
    have hnc11 := NB469_468.out
    have hnb12 := NB468_470.out
    have hnc12 := NB470_468.out
    obtain ⟨z13_0, z13_1, z13_2, z13_3, z13_4, z13_5, z13_6, z13_7⟩ := ca8 BK468
    obtain ⟨f13_0, f13_1, f13_2, f13_3, f13_4, f13_5, f13_6, f13_7⟩ := fa8 BK468
    go_wp2_with (first | ((with_reducible refine gf 9 ?_); refine gc Tryd.func9 (some 8) (spec_WarpOk.calls _ _ A0_1 c0_1 _ A0_2 c0_2 _ _ _ _ _ _ _ _ _ (cb HR0_1) HC0_1.out (cb HR0_2) HC0_2.out A7.out) ?_; rintro e w14 ⟨rfl, hb⟩; refine ⟨_, rfl, ?_⟩; replace BK468 := b_ BK468 hb; replace BK469 := b_ BK469 hb; replace BK470 := b_ BK470 hb; replace HB := hs hb; try clear hb; obtain ⟨z15_0, z15_1, z15_2, z15_3, z15_4, z15_5, z15_6, z15_7⟩ := ca8 BK468; obtain ⟨f15_0, f15_1, f15_2, f15_3, f15_4, f15_5, f15_6, f15_7⟩ := fa8 BK468; have hnb16 := NB469_470.out; have hnc16 := NB470_469.out; obtain ⟨z17_0, z17_1⟩ := ca2 BK469; obtain ⟨f17_0, f17_1⟩ := fa2 BK469) | (go_at_call 33; (with_reducible refine (spec_ReqOk.calls _ _ _ _ _ _ _ ?side1 ?side2 A10.out).mono ?_); (case side1 => repeat (first | exact (Kd.C_below HR1_1.out HB.out) | (with_reducible refine Kd.C_alloc ?_ _) | (with_reducible refine Kd.C_drewN ?_ _) | (with_reducible refine Kd.C_drew ?_))); (case side2 => exact HC1_1.out); rintro e w18 ⟨rfl, hb⟩; replace BK468 := b_ BK468 hb; replace BK469 := b_ BK469 hb; replace BK470 := b_ BK470 hb; replace HB := hs hb; try clear hb))
    go_meet
    case rel => exact ⟨_, (!t472), ev, H', ⟨om⟩, ⟨bk BK468⟩, ⟨bk BK469⟩, ⟨bk BK470⟩, ⟨bw⟩⟩
   ·have H' := Aside0.mk H
    clear H
    have hnb19 := NB468_469.out
    have hnc19 := NB469_468.out
    have hnb20 := NB468_470.out
    have hnc20 := NB470_468.out
    obtain ⟨z21_0, z21_1, z21_2, z21_3, z21_4, z21_5, z21_6, z21_7⟩ := ca8 BK468
    obtain ⟨f21_0, f21_1, f21_2, f21_3, f21_4, f21_5, f21_6, f21_7⟩ := fa8 BK468
    go_wp2_with (first | ((with_reducible refine gf 9 ?_); refine gc Tryd.func9 (some 8) (spec_WarpOk.calls _ _ A0_1 c0_1 _ A0_2 c0_2 _ _ _ _ _ _ _ _ _ (cb HR0_1) HC0_1.out (cb HR0_2) HC0_2.out A7.out) ?_; rintro e w22 ⟨rfl, hb⟩; refine ⟨_, rfl, ?_⟩; replace BK468 := b_ BK468 hb; replace BK469 := b_ BK469 hb; replace BK470 := b_ BK470 hb; replace HB := hs hb; try clear hb; obtain ⟨z23_0, z23_1, z23_2, z23_3, z23_4, z23_5, z23_6, z23_7⟩ := ca8 BK468; obtain ⟨f23_0, f23_1, f23_2, f23_3, f23_4, f23_5, f23_6, f23_7⟩ := fa8 BK468))
    go_meet
    case rel => exact ⟨_, (true), ev, H', ⟨om⟩, ⟨bk BK468⟩, ⟨bk BK469⟩, ⟨bk BK470⟩, ⟨bw⟩⟩
  ·(try simp only [Bool.not_true, Bool.not_false])
   have H' := Aside0.mk H
   clear H
   have hnb24 := NB468_469.out
   have hnc24 := NB469_468.out
   have hnb25 := NB468_470.out
   have hnc25 := NB470_468.out
   obtain ⟨z26_0, z26_1, z26_2, z26_3, z26_4, z26_5, z26_6, z26_7⟩ := ca8 BK468
   obtain ⟨f26_0, f26_1, f26_2, f26_3, f26_4, f26_5, f26_6, f26_7⟩ := fa8 BK468
   go_wp2_with (first | ((with_reducible refine gf 9 ?_); refine gc Tryd.func9 (some 8) (spec_WarpOk.calls _ _ A0_1 c0_1 _ A0_2 c0_2 _ _ _ _ _ _ _ _ _ (cb HR0_1) HC0_1.out (cb HR0_2) HC0_2.out A7.out) ?_; rintro e w27 ⟨rfl, hb⟩; refine ⟨_, rfl, ?_⟩; replace BK468 := b_ BK468 hb; replace BK469 := b_ BK469 hb; replace BK470 := b_ BK470 hb; replace HB := hs hb; try clear hb))
   go_meet
   case rel => exact ⟨_, (true), ev, H', ⟨om⟩, ⟨bk BK468⟩, ⟨bk BK469⟩, ⟨bk BK470⟩, ⟨bw⟩⟩
 case rest =>
  clear HC3
  obtain ⟨kq, x19_2, rfl, HA, HJ2, BK468, BK469, BK470, HB⟩ := hcut
  cases kq with
  | zero => exact absurd HA.out (by simp [spec_WarpSubmit.j0])
  | succ kj2 =>
   have H := HA.out
   clear HA
   simp only [spec_WarpSubmit.j0] at H
   replace H := ib H
   rcases H with ⟨rfl, H⟩ | ⟨rfl, H⟩
   ·simp only [Option.some.injEq, Prod.mk.injEq] at H
    obtain ⟨rfl, rfl, rfl, rfl, rfl, rfl, rfl, rfl, rfl⟩ := H
    have hnb29 := NB470_468.out
    have hnc29 := NB468_470.out
    have hnb30 := NB470_469.out
    have hnc30 := NB469_470.out
    obtain ⟨z31_0, z31_1, z31_2, z31_3, z31_4, z31_5, z31_6, z31_7⟩ := ca8 BK470
    obtain ⟨f31_0, f31_1, f31_2, f31_3, f31_4, f31_5, f31_6, f31_7⟩ := fa8 BK470
    go_wp2
    refine bodyPost_ret (results_ct rfl _ _ gb470 28 #[.int .i64 0, .slice none 0 0, .slice none 0 0, .int .u32 0, .int .i64 0, .int .i64 0, .int .i64 0, .int .u32 0] (0, 0) _ rfl (bp BK470) Tryd.underlying28 rfl kr) rfl ?_
    exact ⟨_, _, rt, by first | exact Kd.R_nil _ _ _ _ _ | exact Kd.N_nil _ _ _ _ _ | exact Kd.V_nil _ _ _ _ _ | exact Kd.Q_nil _ _ _ _ _ | exact Kd.S_nil _ _ _ _ _, by first | exact Kd.R_nil _ _ _ _ _ | exact Kd.N_nil _ _ _ _ _ | exact Kd.V_nil _ _ _ _ _ | exact Kd.Q_nil _ _ _ _ _ | exact Kd.S_nil _ _ _ _ _, bw⟩
   ·replace H := bn H
    obtain ⟨⟨t473, t474, t477, t480, t481, t482, t483, t484⟩, A32, H⟩ := H
    try dsimp only at H
    obtain ⟨y486, hy486⟩ : ∃ y_ : List Int, y_ = (([] : List Int)) := ⟨_, rfl⟩
    rw [← hy486] at H
    try with_reducible replace H := bs H
    have Ny486 := Aside0.mk hy486
    clear hy486
    by_cases c33 : y486.length + l1_1.length < 17592186044416
    ·rw [if_pos c33] at H
     have LMc33 := Aside0.mk c33
     clear c33
     obtain ⟨y489, hy489⟩ : ∃ y_ : List Int, y_ = (y486 ++ l1_1) := ⟨_, rfl⟩
     rw [← hy489] at H
     try with_reducible replace H := bs H
     have Ny489 := Aside0.mk hy489
     clear hy489
     replace H := bn H
     obtain ⟨t492, A34, H⟩ := H
     try dsimp only at H
     replace H := bn H
     obtain ⟨⟨t495, t496⟩, A35, H⟩ := H
     try dsimp only at H
     have HU36 := Aside0.mk H
     clear H
     go_upto_if 39 with (first | ((with_reducible refine gf 47 ?_); refine gc Tryd.func47 (some 21) (spec_WarpNew.calls _ _ _ _ _ _ _ _ _ _ A32.out) ?_; rintro e w37 ⟨v475, v478, rfl, ho0, ho1, hb⟩; refine ⟨_, rfl, ?_⟩; have HO476 := Aside0.mk (Kd.R_lower ho0 (below_size bw)); have HO479 := Aside0.mk (Kd.R_lower ho1 (below_size bw)); replace BK468 := b_ BK468 hb; replace BK469 := b_ BK469 hb; replace BK470 := b_ BK470 hb; replace HB := hs hb; try clear hb; (try clear ho0); (try clear ho1)) | ((with_reducible refine gd 6 ?_); refine bx 6 28 #[.int .i64 0, .slice none 0 0, .slice none 0 0, .int .u32 0, .int .i64 0, .int .i64 0, .int .i64 0, .int .u32 0] ?_; clear HB; intro gb485 w38 hg BK485 hb GE485 HB; replace HO476 := Aside0.mk (Kd.R_below (ro HO476) hb); replace HO479 := Aside0.mk (Kd.R_below (ro HO479) hb); have NB468_485 := nl BK468 hg; have NB485_468 := ng BK468 hg; replace BK468 := b_ BK468 hb; have NB469_485 := nl BK469 hg; have NB485_469 := ng BK469 hg; replace BK469 := b_ BK469 hb; have NB470_485 := nl BK470 hg; have NB485_470 := ng BK470 hg; replace BK470 := b_ BK470 hb; clear hb hg; have hnb39 := NB485_468.out; have hnc39 := NB468_485.out; have hnb40 := NB485_469.out; have hnc40 := NB469_485.out; have hnb41 := NB485_470.out; have hnc41 := NB470_485.out; obtain ⟨z42_0, z42_1, z42_2, z42_3, z42_4, z42_5, z42_6, z42_7⟩ := ca8 BK485; obtain ⟨f42_0, f42_1, f42_2, f42_3, f42_4, f42_5, f42_6, f42_7⟩ := fa8 BK485; obtain ⟨Ao43, co43, eo43⟩ := Kd.R_slice HO476.out; subst eo43; obtain ⟨Ao44, co44, eo44⟩ := Kd.R_slice HO479.out; subst eo44) | ((with_reducible refine gate_dst (N := 22) rfl ?_); refine Kd.R_lit (Kd.int .i64) _ 3 ?hg (N := 22) ?hd (xs := ([] : List Int)) (inner := []) (ok := fun _ => True) (okp := fun _ => True) ?hr ?hp (fun _ hk => hk) trivial (Below.refl _ _) (Nat.le_refl _) (by simp) ?_; (case hd => rfl); (case hg => rfl); (case hr => first | (go_simp; done) | (go_simp; rfl)); (case hp => exact (Reps.none _ _)); intro v487 w45 ho46 hb hg_ hnew_; clear hg_ hnew_; (first | rw [← Ny486.out] at ho46 | (simp only [Int.reduceToNat] at ho46; rw [← Ny486.out] at ho46)); have HO488 := Aside0.mk (Kd.R_lower (Kd.R_new' (Kd.R_new' ho46 (Kd.R_lt (rx HO476 BK485))) (Kd.R_lt (rx HO479 BK485))) (below_size bw)); replace HO476 := Aside0.mk (Kd.R_elder' (rx HO476 BK485) (Kd.R_base ho46) hb); replace HO479 := Aside0.mk (Kd.R_elder' (rx HO479 BK485) (Kd.R_base ho46) hb); replace BK468 := b_ BK468 hb; replace BK469 := b_ BK469 hb; replace BK470 := b_ BK470 hb; replace BK485 := bq BK485 #[.int .i64 t473, .slice Ao43 t474.length co43, .slice Ao44 t477.length co44, .int .u32 t480, .int .i64 t481, .int .i64 t482, .int .i64 t483, .int .u32 t484] hb; replace HB := hs hb; clear hb ho46; have hnb47 := NB469_468.out; have hnc47 := NB468_469.out; have hnb48 := NB469_470.out; have hnc48 := NB470_469.out; obtain ⟨z49_0, z49_1⟩ := ca2 BK469; obtain ⟨f49_0, f49_1⟩ := fa2 BK469) | ((with_reducible refine gate_builtin (b := .append) (xs := #[.tmp 22, .tmp 24]) rfl ?_); at_builtin; refine Kd.R_append_rows (Kd.int .i64) (w0 := w) w.heap.size rfl (.tmp 22) (.tmp 24) 22 3 (.int .i64 0) 8 rfl Tryd.underlying22 info3 rfl (by decide) (by omega) v487 y486 l1_1 _ _ _ (fun k_ => some k_ ≠ (.slice Ao43 t474.length co43 : Value).ownBlock ∧ some k_ ≠ (.slice Ao44 t477.length co44 : Value).ownBlock) (fun _ => False) rfl rfl ?aO ?aR (fun _ _ h => h) (fun _ h => h.elim) ?aF ?aB ?aS ?aL ?_; (case aR => repeat (first | exact (Kd.C_below HR1_1.out HB.out) | (with_reducible refine Kd.C_alloc ?_ _) | (with_reducible refine Kd.C_drewN ?_ _) | (with_reducible refine Kd.C_drew ?_))); (case aB => exact bw); (case aF => exact (fun k_ hk => ⟨Kd.fresh' (Kd.R_lt (ro HO476)) k_ hk, Kd.fresh' (Kd.R_lt (ro HO479)) k_ hk⟩)); (case aO => exact (by (with_reducible repeat (first | apply Kd.R_alloc | apply Kd.R_drewN | apply Kd.R_drew)); exact Kd.R_mono HO488.out (fun _ hk => ⟨hk.1.2, hk.2⟩))); (case aS => exact (below_size bw)); (case aL => have := LMc33.out; omega); intro v490 w50 ho hb hg hat; rw [← Ny489.out] at ho; replace BK468 := bg BK468 hg (Kd.R_ne HO488.out BK468.out (by decide)); replace BK469 := bg BK469 hg (Kd.R_ne HO488.out BK469.out (by decide)); replace BK470 := bg BK470 hg (Kd.R_ne HO488.out BK470.out (by decide)); replace HO476 := Aside0.mk (Kd.R_after (ok := (fun k_ => some k_ ≠ (.slice Ao44 t477.length co44 : Value).ownBlock)) (ro HO476) hg hat); replace HO479 := Aside0.mk (Kd.R_after (ok := (fun k_ => some k_ ≠ (.slice Ao43 t474.length co43 : Value).ownBlock)) (ro HO479) hg hat); replace BK485 := bg BK485 hg (Kd.R_ne HO488.out BK485.out (by decide)); have HO491 := Aside0.mk (ho); replace HB := Aside0.mk (hb); clear HO488; clear ho hb hg hat; obtain ⟨Ao51, co51, eo51⟩ := Kd.R_slice HO491.out; subst eo51; obtain ⟨z52_0, z52_1, z52_2, z52_3, z52_4, z52_5, z52_6, z52_7⟩ := ca8 BK485; obtain ⟨f52_0, f52_1, f52_2, f52_3, f52_4, f52_5, f52_6, f52_7⟩ := fa8 BK485; obtain ⟨z53_0, z53_1⟩ := ca2 BK469; obtain ⟨f53_0, f53_1⟩ := fa2 BK469) | ((with_reducible refine gf 34 ?_); refine gc Tryd.func34 (some 32) (spec_l07Asks.calls _ _ A1_1 c1_1 _ _ _ (Kd.C_below HR1_1.out bw) HC1_1.out A34.out) ?_; rintro e w54 ⟨v493, rfl, ho0, hb⟩; refine ⟨_, rfl, ?_⟩; have HO494 := Aside0.mk (Kd.R_lower (Kd.R_new' (Kd.R_new' (Kd.R_new' ho0 (Kd.R_lt (rx HO476 BK485))) (Kd.R_lt (rx HO479 BK485))) (Kd.R_lt (rx HO491 BK485))) (below_size bw)); replace HO476 := Aside0.mk (Kd.R_elder' (rx HO476 BK485) (Kd.R_base ho0) hb); replace HO479 := Aside0.mk (Kd.R_elder' (rx HO479 BK485) (Kd.R_base ho0) hb); replace HO491 := Aside0.mk (Kd.R_elder' (rx HO491 BK485) (Kd.R_base ho0) hb); replace BK468 := b_ BK468 hb; replace BK469 := b_ BK469 hb; replace BK470 := b_ BK470 hb; replace BK485 := bq BK485 #[.int .i64 t473, .slice Ao51 y489.length co51, .slice Ao44 t477.length co44, .int .u32 t480, .int .i64 t481, .int .i64 t482, .int .i64 t483, .int .u32 t484] hb; replace HB := hs hb; try clear hb; (try clear ho0); obtain ⟨Ao55, co55, eo55⟩ := Kd.R_slice HO494.out; subst eo55) | ((with_reducible refine gf 44 ?_); refine gc Tryd.func44 (some 33) (spec_BitsOf.calls _ Ao55 co55 _ _ _ _ (cr HO494) ((Kd.R_reads' HO494.out).2.1) A35.out) ?_; rintro e w56 ⟨rfl, hb⟩; refine ⟨_, rfl, ?_⟩; replace HO476 := Aside0.mk (Kd.R_below (ro HO476) hb); replace HO479 := Aside0.mk (Kd.R_below (ro HO479) hb); replace HO491 := Aside0.mk (Kd.R_below (ro HO491) hb); replace HO494 := Aside0.mk (Kd.R_below (ro HO494) hb); replace BK468 := b_ BK468 hb; replace BK469 := b_ BK469 hb; replace BK470 := b_ BK470 hb; replace BK485 := b_ BK485 hb; replace HB := hs hb; try clear hb; obtain ⟨z57_0, z57_1, z57_2, z57_3, z57_4, z57_5, z57_6, z57_7⟩ := ca8 BK485; obtain ⟨f57_0, f57_1, f57_2, f57_3, f57_4, f57_5, f57_6, f57_7⟩ := fa8 BK485))
     (try refine ap ?_)
     have H := HU36.out
     clear HU36
     replace H := ieq H
     rcases H with ⟨c58b0, c58b1, H⟩ | ⟨c58, c58b0, c58b1, H⟩
     ·(first | rw [c58b0] | (simp only [i64_w, i32_w]; rw [c58b0]) | (simp only [c58b2, Bool.not_true, Bool.not_false]) | (simp only [c58b1, Bool.not_true, Bool.not_false]) | skip)
      simp only [Option.some.injEq, Prod.mk.injEq] at H
      obtain ⟨rfl, rfl, rfl, rfl, rfl, rfl, rfl, rfl, rfl⟩ := H
      have hnb59 := NB485_468.out
      have hnc59 := NB468_485.out
      have hnb60 := NB485_469.out
      have hnc60 := NB469_485.out
      have hnb61 := NB485_470.out
      have hnc61 := NB470_485.out
      obtain ⟨z62_0, z62_1, z62_2, z62_3, z62_4, z62_5, z62_6, z62_7⟩ := ca8 BK485
      obtain ⟨f62_0, f62_1, f62_2, f62_3, f62_4, f62_5, f62_6, f62_7⟩ := fa8 BK485
      have hnb63 := NB470_468.out
      have hnc63 := NB468_470.out
      have hnb64 := NB470_469.out
      have hnc64 := NB469_470.out
      obtain ⟨z65_0, z65_1, z65_2, z65_3, z65_4, z65_5, z65_6, z65_7⟩ := ca8 BK470
      obtain ⟨f65_0, f65_1, f65_2, f65_3, f65_4, f65_5, f65_6, f65_7⟩ := fa8 BK470
      go_wp2
      refine bodyPost_ret (results_ct rfl _ _ gb470 28 #[.int .i64 t473, .slice Ao51 y489.length co51, .slice Ao44 t477.length co44, .int .u32 t495, .int .i64 t481, .int .i64 t482, .int .i64 t483, .int .u32 t484] (0, 0) _ rfl (bp BK470) Tryd.underlying28 rfl kr) rfl ?_
      exact ⟨_, _, rt, by (with_reducible repeat (first | apply Kd.R_alloc | apply Kd.R_drewN | apply Kd.R_drew)); exact Kd.R_mono (Kd.R_far (p := ⟨gb470, 7, none⟩) (Kd.R_far (p := ⟨gb470, 6, none⟩) (Kd.R_far (p := ⟨gb470, 5, none⟩) (Kd.R_far (p := ⟨gb470, 4, none⟩) (Kd.R_far (p := ⟨gb470, 3, none⟩) (Kd.R_far (p := ⟨gb470, 2, none⟩) (Kd.R_far (p := ⟨gb470, 1, none⟩) (Kd.R_far (p := ⟨gb470, 0, none⟩) (Kd.R_far (p := ⟨gb485, 3, none⟩) (Kd.R_types (Kd.R_types HO491.out BK485.out (by decide)) BK470.out (by decide)) (fun _ hk => hk.1.2) (.int .u32 t495)) (fun _ hk => hk.2) (.int .i64 t473)) (fun _ hk => hk.2) (.slice Ao51 y489.length co51)) (fun _ hk => hk.2) (.slice Ao44 t477.length co44)) (fun _ hk => hk.2) (.int .u32 t495)) (fun _ hk => hk.2) (.int .i64 t481)) (fun _ hk => hk.2) (.int .i64 t482)) (fun _ hk => hk.2) (.int .i64 t483)) (fun _ hk => hk.2) (.int .u32 t484)) (fun _ hk => hk.1.1.1.2), by (with_reducible repeat (first | apply Kd.R_alloc | apply Kd.R_drewN | apply Kd.R_drew)); exact Kd.R_mono (Kd.R_far (p := ⟨gb470, 7, none⟩) (Kd.R_far (p := ⟨gb470, 6, none⟩) (Kd.R_far (p := ⟨gb470, 5, none⟩) (Kd.R_far (p := ⟨gb470, 4, none⟩) (Kd.R_far (p := ⟨gb470, 3, none⟩) (Kd.R_far (p := ⟨gb470, 2, none⟩) (Kd.R_far (p := ⟨gb470, 1, none⟩) (Kd.R_far (p := ⟨gb470, 0, none⟩) (Kd.R_far (p := ⟨gb485, 3, none⟩) (Kd.R_types (Kd.R_types HO479.out BK485.out (by decide)) BK470.out (by decide)) (fun _ hk => hk.1.2) (.int .u32 t495)) (fun _ hk => hk.2) (.int .i64 t473)) (fun _ hk => hk.2) (.slice Ao51 y489.length co51)) (fun _ hk => hk.2) (.slice Ao44 t477.length co44)) (fun _ hk => hk.2) (.int .u32 t495)) (fun _ hk => hk.2) (.int .i64 t481)) (fun _ hk => hk.2) (.int .i64 t482)) (fun _ hk => hk.2) (.int .i64 t483)) (fun _ hk => hk.2) (.int .u32 t484)) (fun _ hk => hk.1.1.1.2), bw⟩
     ·(first | rw [c58b0] | (simp only [i64_w, i32_w]; rw [c58b0]) | (simp only [c58b2, Bool.not_true, Bool.not_false]) | (simp only [c58b1, Bool.not_true, Bool.not_false]) | skip)
      simp only [Option.some.injEq, Prod.mk.injEq] at H
      obtain ⟨rfl, rfl, rfl, rfl, rfl, rfl, rfl, rfl, rfl⟩ := H
      have hnb66 := NB469_468.out
      have hnc66 := NB468_469.out
      have hnb67 := NB469_470.out
      have hnc67 := NB470_469.out
      have hnb68 := NB469_485.out
      have hnc68 := NB485_469.out
      obtain ⟨z69_0, z69_1⟩ := ca2 BK469
      obtain ⟨f69_0, f69_1⟩ := fa2 BK469
      have hnb70 := NB485_468.out
      have hnc70 := NB468_485.out
      have hnb71 := NB485_470.out
      have hnc71 := NB470_485.out
      obtain ⟨z72_0, z72_1, z72_2, z72_3, z72_4, z72_5, z72_6, z72_7⟩ := ca8 BK485
      obtain ⟨f72_0, f72_1, f72_2, f72_3, f72_4, f72_5, f72_6, f72_7⟩ := fa8 BK485
      have hnb73 := NB470_468.out
      have hnc73 := NB468_470.out
      obtain ⟨z74_0, z74_1, z74_2, z74_3, z74_4, z74_5, z74_6, z74_7⟩ := ca8 BK470
      obtain ⟨f74_0, f74_1, f74_2, f74_3, f74_4, f74_5, f74_6, f74_7⟩ := fa8 BK470
      go_wp2
      refine bodyPost_ret (results_ct rfl _ _ gb470 28 #[.int .i64 a1_0, .slice Ao51 y489.length co51, .slice Ao44 t477.length co44, .int .u32 t495, .int .i64 t481, .int .i64 t482, .int .i64 t483, .int .u32 t484] (0, 0) _ rfl (bp BK470) Tryd.underlying28 rfl kr) rfl ?_
      exact ⟨_, _, rt, by (with_reducible repeat (first | apply Kd.R_alloc | apply Kd.R_drewN | apply Kd.R_drew)); exact Kd.R_mono (Kd.R_far (p := ⟨gb470, 7, none⟩) (Kd.R_far (p := ⟨gb470, 6, none⟩) (Kd.R_far (p := ⟨gb470, 5, none⟩) (Kd.R_far (p := ⟨gb470, 4, none⟩) (Kd.R_far (p := ⟨gb470, 3, none⟩) (Kd.R_far (p := ⟨gb470, 2, none⟩) (Kd.R_far (p := ⟨gb470, 1, none⟩) (Kd.R_far (p := ⟨gb470, 0, none⟩) (Kd.R_far (p := ⟨gb485, 0, none⟩) (Kd.R_far (p := ⟨gb485, 3, none⟩) (Kd.R_types (Kd.R_types HO491.out BK485.out (by decide)) BK470.out (by decide)) (fun _ hk => hk.1.2) (.int .u32 t495)) (fun _ hk => hk.1.2) (.int .i64 a1_0)) (fun _ hk => hk.2) (.int .i64 a1_0)) (fun _ hk => hk.2) (.slice Ao51 y489.length co51)) (fun _ hk => hk.2) (.slice Ao44 t477.length co44)) (fun _ hk => hk.2) (.int .u32 t495)) (fun _ hk => hk.2) (.int .i64 t481)) (fun _ hk => hk.2) (.int .i64 t482)) (fun _ hk => hk.2) (.int .i64 t483)) (fun _ hk => hk.2) (.int .u32 t484)) (fun _ hk => hk.1.1.1.2), by (with_reducible repeat (first | apply Kd.R_alloc | apply Kd.R_drewN | apply Kd.R_drew)); exact Kd.R_mono (Kd.R_far (p := ⟨gb470, 7, none⟩) (Kd.R_far (p := ⟨gb470, 6, none⟩) (Kd.R_far (p := ⟨gb470, 5, none⟩) (Kd.R_far (p := ⟨gb470, 4, none⟩) (Kd.R_far (p := ⟨gb470, 3, none⟩) (Kd.R_far (p := ⟨gb470, 2, none⟩) (Kd.R_far (p := ⟨gb470, 1, none⟩) (Kd.R_far (p := ⟨gb470, 0, none⟩) (Kd.R_far (p := ⟨gb485, 0, none⟩) (Kd.R_far (p := ⟨gb485, 3, none⟩) (Kd.R_types (Kd.R_types HO479.out BK485.out (by decide)) BK470.out (by decide)) (fun _ hk => hk.1.2) (.int .u32 t495)) (fun _ hk => hk.1.2) (.int .i64 a1_0)) (fun _ hk => hk.2) (.int .i64 a1_0)) (fun _ hk => hk.2) (.slice Ao51 y489.length co51)) (fun _ hk => hk.2) (.slice Ao44 t477.length co44)) (fun _ hk => hk.2) (.int .u32 t495)) (fun _ hk => hk.2) (.int .i64 t481)) (fun _ hk => hk.2) (.int .i64 t482)) (fun _ hk => hk.2) (.int .i64 t483)) (fun _ hk => hk.2) (.int .u32 t484)) (fun _ hk => hk.1.1.1.2), bw⟩
    ·rw [if_neg c33] at H
     exact absurd H (by simp)

/-! ### laws_toReq: function 17 -/
def laws_toReq.f (k : Nat) (a0_0 : Int) (l0_1 : List Int) : Option (Int × List Int) := (laws_toIntS.f k l0_1).bind fun t500 => (some (a0_0, t500))
theorem laws_toReq.mono : ∀ a0 a1 k, LeO (laws_toReq.f k a0 a1) (laws_toReq.f (k + 1) a0 a1) := by
 intro a0 a1 k
 unfold laws_toReq.f
 repeat' first
  | (with_reducible first | exact laws_toIntS.mono .. | exact LeO.refl _ | exact LeO.none _ | refine LeO.ite ?_ ?_ | refine LeO.bind ?_ (fun _ => ?_))
  | exact LeO.none _ | refine LeO.ite ?_ ?_ | refine LeO.bind ?_ (fun _ => ?_)
set_option maxHeartbeats 8000000 in
set_option maxRecDepth 100000 in
theorem laws_toReq.calls (k : Nat) (a0_0 : Int) (A0_1 : Option Addr) (c0_1 : Nat) (l0_1 : List Int) (r1 : Int) (r2 : List Int) (w : World) (hr0_1 : Kd.C (Kd.int .i64) w A0_1 l0_1.length l0_1) (hc0_1 : l0_1.length ≤ c0_1) (h : laws_toReq.f k a0_0 l0_1 = some (r1, r2)) :
  Calls Tryd.prog 17 #[.agg #[.int .i64 a0_0, .slice A0_1 l0_1.length c0_1]] w fun e w' => ∃ v1_ : Value, e = .returned (.agg #[.int .i64 r1, v1_]) ∧ Kd.R (Kd.int .i64) 3 w' w.heap.size (fun _ => True) v1_ r2 ∧ Below w.heap.size w w' := by
 have hu35 := Tryd.underlying35
 have hu39 := Tryd.underlying39
 have HR0_1 := Aside0.mk hr0_1
 have HC0_1 := Aside0.mk hc0_1
 clear hr0_1 hc0_1
 have HB := Aside0.mk (Below.refl w.heap.size w)
 unfold laws_toReq.f at h
 have H := h
 clear h
 replace H := bn H
 obtain ⟨t500, A2, H⟩ := H
 try dsimp only at H
 simp only [Option.some.injEq, Prod.mk.injEq] at H
 obtain ⟨rfl, rfl⟩ := H
 go_enter Tryd.func17, Tryd.ntmps17
 go_wp2_with (first | ((with_reducible refine gd 1 ?_); refine bx 1 35 #[.int .i64 a0_0, .slice A0_1 l0_1.length c0_1] ?_; clear HB; intro gb497 w3 hg BK497 hb GE497 HB; clear hb hg) | ((with_reducible refine gd 2 ?_); refine bx 2 39 #[.int .i64 0, .slice none 0 0] ?_; clear HB; intro gb498 w4 hg BK498 hb GE498 HB; have NB497_498 := nl BK497 hg; have NB498_497 := ng BK497 hg; replace BK497 := b_ BK497 hb; clear hb hg) | ((with_reducible refine gd 3 ?_); refine bx 3 39 #[.int .i64 0, .slice none 0 0] ?_; clear HB; intro gb499 w5 hg BK499 hb GE499 HB; have NB497_499 := nl BK497 hg; have NB499_497 := ng BK497 hg; replace BK497 := b_ BK497 hb; have NB498_499 := nl BK498 hg; have NB499_498 := ng BK498 hg; replace BK498 := b_ BK498 hb; clear hb hg; have hnb6 := NB497_498.out; have hnc6 := NB498_497.out; have hnb7 := NB497_499.out; have hnc7 := NB499_497.out; obtain ⟨z8_0, z8_1⟩ := ca2 BK497; obtain ⟨f8_0, f8_1⟩ := fa2 BK497; have hnb9 := NB499_498.out; have hnc9 := NB498_499.out; obtain ⟨z10_0, z10_1⟩ := ca2 BK499; obtain ⟨f10_0, f10_1⟩ := fa2 BK499) | ((with_reducible refine gf 41 ?_); refine gc Tryd.func41 (some 9) (laws_toIntS.calls _ A0_1 c0_1 _ _ _ (Kd.C_below HR0_1.out bw) HC0_1.out A2.out) ?_; rintro e w11 ⟨v501, rfl, ho0, hb⟩; refine ⟨_, rfl, ?_⟩; have HO502 := Aside0.mk (Kd.R_lower ho0 (below_size bw)); replace BK497 := b_ BK497 hb; replace BK498 := b_ BK498 hb; replace BK499 := bq BK499 #[.int .i64 a0_0, .slice none 0 0] hb; replace HB := hs hb; try clear hb; (try clear ho0); obtain ⟨Ao12, co12, eo12⟩ := Kd.R_slice HO502.out; subst eo12; obtain ⟨z13_0, z13_1⟩ := ca2 BK499; obtain ⟨f13_0, f13_1⟩ := fa2 BK499; obtain ⟨z14_0, z14_1⟩ := ca2 BK498; obtain ⟨f14_0, f14_1⟩ := fa2 BK498))
 refine bodyPost_ret (results_cell_row rfl _ _ gb498 39 #[.int .i64 a0_0, .slice Ao12 t500.length co12] (0, 0) _ rfl (bp BK498) Tryd.underlying39 rfl kr) rfl ?_
 exact ⟨_, rt, by (with_reducible repeat (first | apply Kd.R_alloc | apply Kd.R_drewN | apply Kd.R_drew)); exact Kd.R_mono (Kd.R_far (p := ⟨gb498, 1, none⟩) (Kd.R_far (p := ⟨gb498, 0, none⟩) (Kd.R_far (p := ⟨gb499, 1, none⟩) (Kd.R_types (Kd.R_types HO502.out BK499.out (by decide)) BK498.out (by decide)) (fun _ hk => hk.1.2) (.slice Ao12 t500.length co12)) (fun _ hk => hk.2) (.int .i64 a0_0)) (fun _ hk => hk.2) (.slice Ao12 t500.length co12)) (fun _ hk => trivial), bw⟩

/-! ### laws_eqReq: function 19 -/
def laws_eqReq.f (k : Nat) (a0_0 : Int) (l0_1 : List Int) (a1_0 : Int) (l1_1 : List Int) : Option (Bool) := if a0_0 = a1_0 then ((laws_eqIntS.f k l0_1 l1_1).bind fun t543 => (if t543 = true then (some true) else (some false))) else (some false)
theorem laws_eqReq.mono : ∀ a0 a1 a2 a3 k, LeO (laws_eqReq.f k a0 a1 a2 a3) (laws_eqReq.f (k + 1) a0 a1 a2 a3) := by
 intro a0 a1 a2 a3 k
 unfold laws_eqReq.f
 repeat' first
  | (with_reducible first | exact laws_eqIntS.mono .. | exact LeO.refl _ | exact LeO.none _ | refine LeO.ite ?_ ?_ | refine LeO.bind ?_ (fun _ => ?_))
  | exact LeO.none _ | refine LeO.ite ?_ ?_ | refine LeO.bind ?_ (fun _ => ?_)
set_option maxHeartbeats 8000000 in
set_option maxRecDepth 100000 in
theorem laws_eqReq.calls (k : Nat) (a0_0 : Int) (A0_1 : Option Addr) (c0_1 : Nat) (l0_1 : List Int) (a1_0 : Int) (A1_1 : Option Addr) (c1_1 : Nat) (l1_1 : List Int) (r : Bool) (w : World) (hr0_1 : Kd.C (Kd.int .i64) w A0_1 l0_1.length l0_1) (hc0_1 : l0_1.length ≤ c0_1) (hr1_1 : Kd.C (Kd.int .i64) w A1_1 l1_1.length l1_1) (hc1_1 : l1_1.length ≤ c1_1) (h : laws_eqReq.f k a0_0 l0_1 a1_0 l1_1 = some r) :
  Calls Tryd.prog 19 #[.agg #[.int .i64 a0_0, .slice A0_1 l0_1.length c0_1], .agg #[.int .i64 a1_0, .slice A1_1 l1_1.length c1_1]] w fun e w' => e = .returned (.bool r) ∧ Below w.heap.size w w' := by
 have hu39 := Tryd.underlying39
 have HR0_1 := Aside0.mk hr0_1
 have HC0_1 := Aside0.mk hc0_1
 clear hr0_1 hc0_1
 have HR1_1 := Aside0.mk hr1_1
 have HC1_1 := Aside0.mk hc1_1
 clear hr1_1 hc1_1
 have HB := Aside0.mk (Below.refl w.heap.size w)
 unfold laws_eqReq.f at h
 have H := h
 clear h
 have HU3 := Aside0.mk H
 clear H
 go_enter Tryd.func19, Tryd.ntmps19
 go_upto_if 9 with (first | ((with_reducible refine gd 2 ?_); refine bx 2 39 #[.int .i64 a0_0, .slice A0_1 l0_1.length c0_1] ?_; clear HB; intro gb541 w4 hg BK541 hb GE541 HB; clear hb hg) | ((with_reducible refine gd 3 ?_); refine bx 3 39 #[.int .i64 a1_0, .slice A1_1 l1_1.length c1_1] ?_; clear HB; intro gb542 w5 hg BK542 hb GE542 HB; have NB541_542 := nl BK541 hg; have NB542_541 := ng BK541 hg; replace BK541 := b_ BK541 hb; clear hb hg; have hnb6 := NB541_542.out; have hnc6 := NB542_541.out; obtain ⟨z7_0, z7_1⟩ := ca2 BK541; obtain ⟨f7_0, f7_1⟩ := fa2 BK541; obtain ⟨z8_0, z8_1⟩ := ca2 BK542; obtain ⟨f8_0, f8_1⟩ := fa2 BK542))
 (try refine ap ?_)
 have H := HU3.out
 clear HU3
 replace H := ieq H
 rcases H with ⟨c9b0, c9b1, H⟩ | ⟨c9, c9b0, c9b1, H⟩
 ·(first | rw [c9b0] | (simp only [i64_w, i32_w]; rw [c9b0]) | (simp only [c9b2, Bool.not_true, Bool.not_false]) | (simp only [c9b1, Bool.not_true, Bool.not_false]) | skip)
  replace H := bn H
  obtain ⟨t543, A10, H⟩ := H
  try dsimp only at H
  have HU11 := Aside0.mk H
  clear H
  have hnb12 := NB541_542.out
  have hnc12 := NB542_541.out
  obtain ⟨z13_0, z13_1⟩ := ca2 BK541
  obtain ⟨f13_0, f13_1⟩ := fa2 BK541
  obtain ⟨z14_0, z14_1⟩ := ca2 BK542
  obtain ⟨f14_0, f14_1⟩ := fa2 BK542
  go_upto_if 15 with (first | ((with_reducible refine gf 43 ?_); refine gc Tryd.func43 (some 14) (laws_eqIntS.calls _ A0_1 c0_1 _ A1_1 c1_1 _ _ _ (cb HR0_1) HC0_1.out (cb HR1_1) HC1_1.out A10.out) ?_; rintro e w' ⟨rfl, ⟨nd, rfl⟩⟩; refine ⟨_, rfl, ?_⟩))
  (try refine ap ?_)
  have H := HU11.out
  clear HU11
  replace H := ib H
  rcases H with ⟨rfl, H⟩ | ⟨rfl, H⟩
  ·(try simp only [Bool.not_true, Bool.not_false])
   obtain rfl := Option.some.inj H
   go_wp2
   go_ret
   exact ⟨rt, bw⟩
  ·(try simp only [Bool.not_true, Bool.not_false])
   obtain rfl := Option.some.inj H
   go_wp2
   go_ret
   exact ⟨rt, bw⟩
 ·(first | rw [c9b0] | (simp only [i64_w, i32_w]; rw [c9b0]) | (simp only [c9b2, Bool.not_true, Bool.not_false]) | (simp only [c9b1, Bool.not_true, Bool.not_false]) | skip)
  obtain rfl := Option.some.inj H
  go_wp2
  go_ret
  exact ⟨rt, bw⟩

/-! ### laws_markIntS: function 50 -/
def laws_markIntS.l0 : Nat → List Int → Int → Int → Option (Int × List Int)
 | 0, _, _, _ => none
 | k + 1, x0, x1, x5 => if x5 < (x0.length : Int) then (if 0 ≤ x5 then (laws_markIntS.l0 k (x0.set (x5 : Int).toNat x1) (wrap64 (x1 + 1)) (wrap64 (x5 + 1))) else (none)) else (some (x1, x0))
def laws_markIntS.f (k : Nat) (l0 : List Int) (a1 : Int) : Option (Int × List Int) := laws_markIntS.l0 k l0 a1 0
theorem laws_markIntS.mono_l : ∀ k, (∀ y0 y1 y2, LeO (laws_markIntS.l0 k y0 y1 y2) (laws_markIntS.l0 (k + 1) y0 y1 y2))
 | 0 => fun _ _ _ r h => by simp [laws_markIntS.l0] at h
 | k + 1 => by
  have ih0 := laws_markIntS.mono_l k
  ·intro y0 y1 y2
   unfold laws_markIntS.l0
   repeat' first
    | (with_reducible first | exact ih0 .. | exact LeO.refl _ | exact LeO.none _ | refine LeO.ite ?_ ?_ | refine LeO.bind ?_ (fun _ => ?_))
    | exact LeO.none _ | refine LeO.ite ?_ ?_ | refine LeO.bind ?_ (fun _ => ?_)
theorem laws_markIntS.mono : ∀ a0 a1 k, LeO (laws_markIntS.f k a0 a1) (laws_markIntS.f (k + 1) a0 a1) := by
 intro a0 a1 k
 have ih0 := laws_markIntS.mono_l k
 unfold laws_markIntS.f
 repeat' first
  | (with_reducible first | exact ih0 .. | exact LeO.refl _ | exact LeO.none _ | refine LeO.ite ?_ ?_ | refine LeO.bind ?_ (fun _ => ?_))
  | exact LeO.none _ | refine LeO.ite ?_ ?_ | refine LeO.bind ?_ (fun _ => ?_)
set_option maxHeartbeats 8000000 in
set_option maxRecDepth 100000 in
theorem laws_markIntS.calls (k : Nat) (P0_ : Nat → Prop) (u9000_ : Value) (l0 : List Int) (a1 : Int) (r1 : Int) (r2 : List Int) (w0 w : World) (hB : Below w0.heap.size w0 w) (ho0 : Kd.R (Kd.int .i64) 3 w w0.heap.size P0_ u9000_ l0) (h : laws_markIntS.f k l0 a1 = some (r1, r2)) :
  Calls Tryd.prog 50 #[u9000_, .int .i64 a1] w fun e w' => e = .returned (.int .i64 r1) ∧ Kd.R (Kd.int .i64) 3 w' w0.heap.size (fun k_ => (P0_ k_ ∨ w.heap.size ≤ k_)) u9000_ r2 ∧ Below w0.heap.size w0 w' ∧ Kept w w' (fun k_ => P0_ k_) := by
 have HO0 := Aside0.mk (show Kd.R (Kd.int .i64) 3 w w0.heap.size (fun k_ => (P0_ k_ ∨ w.heap.size ≤ k_)) u9000_ l0 from Kd.R_mono ho0 (fun k_ hk => (.inl hk)))
 have HK := Aside0.mk (Kept.refl w (fun k_ => P0_ k_))
 have HW0 := Aside0.mk hB.size
 have HB := Aside0.mk hB
 clear hB
 unfold laws_markIntS.f at h
 have H := h
 clear h
 have H' := Aside0.mk H
 clear H
 go_enter Tryd.func50, Tryd.ntmps50
 go_wp2
 go_loopg [1, 5] k (fun kq v1 v5 w' => ∃ (x0_1 : List Int) (x1_1 : Int) (x5_1 : Int), v1 = .int .i64 x1_1 ∧ v5 = .int .i64 x5_1 ∧ Aside0 (laws_markIntS.l0 kq x0_1 x1_1 x5_1 = some (r1, r2)) ∧ Aside0 (kq ≤ k) ∧ Aside0 (Kd.R (Kd.int .i64) 3 w' w0.heap.size (fun k_ => (P0_ k_ ∨ w.heap.size ≤ k_)) u9000_ x0_1) ∧ Aside0 (Kept w w' (fun k_ => P0_ k_)) ∧ Aside0 (Below w0.heap.size w0 w'))
 case atStart => exact ⟨(l0), (a1), (0), ev, ev, H', ⟨Nat.le_refl _⟩, ⟨ro HO0⟩, ⟨by repeat (first | (with_reducible first | exact HK.out | apply Kept.alloc | apply Kept.drewN | apply Kept.drew) | exact HK.out)⟩, ⟨bw⟩⟩
 case round =>
  clear H'
  obtain ⟨x0_1, x1_1, x5_1, rfl, rfl, HA, HK1, HO_0, HK, HB⟩ := hrel
  cases gk with
  | zero => exact absurd HA.out (by simp [laws_markIntS.l0])
  | succ k1 =>
   have H := HA.out
   clear HA
   simp only [laws_markIntS.l0] at H
   replace H := ilt H
   rcases H with ⟨c3b0, H⟩ | ⟨c3b0, H⟩
   ·by_cases c4 : 0 ≤ x5_1
    ·rw [if_pos c4] at H
     have c4b0 : decide (0 ≤ x5_1) = true := decide_eq_true c4
     clear c4
     obtain ⟨y544, hy544⟩ : ∃ y_ : List Int, y_ = (x0_1.set (x5_1 : Int).toNat x1_1) := ⟨_, rfl⟩
     rw [← hy544] at H
     try with_reducible replace H := bs H
     have Ny544 := Aside0.mk hy544
     clear hy544
     have H' := Aside0.mk H
     clear H
     obtain ⟨Ao6, co6, eo6⟩ := Kd.R_slice HO_0.out
     subst eo6
     have p5 : 0 ≤ (x5_1 : Int) := of_decide_eq_true as_
     have q5 : (x5_1 : Int) < ((x0_1.length : Int) : Int) := of_decide_eq_true as_
     obtain ⟨go5, co5, eo5, gb5, gl5, cl5, HG5⟩ := Kd.R_form HO_0.out (by omega)
     (first | cases eo5 | (injection eo5 with ea_ en_ ec_; (first | subst ea_ | (injection ea_ with ea_; subst ea_)); subst ec_; clear en_))
     have GB5 := Aside0.mk gb5
     have GG5 := Aside0.mk HG5
     clear gb5 gl5 HG5
     have HMgo5 := Aside0.mk (show (P0_ go5 ∨ w.heap.size ≤ go5) from (HO_0.out.1 _ rfl))
     obtain ⟨hx5_0, hf5_0⟩ := Kd.R_celln 0 HO_0.out (x5_1 : Int) p5 q5
     replace p5 := eq_true p5
     replace q5 := eq_true q5
     have HP7 := Kd.R_putg HO_0.out (x5_1 : Int) x1_1
     go_wp2_with (first | ((with_reducible refine gate_store (t := 3) (p := 15) rfl ?_); refine store_event (t := 3) (p := 15) (v := ?vo_w8) (w1 := (wr.setCell ⟨go5, (x5_1 : Int).toNat, none⟩ (.int .i64 x1_1))) ?hg ?ho ?hn ?hr ?_; (case ho => rfl); (case hg => rfl); (case hn => rfl); (case hr => first | (go_simp; done) | (go_simp; rfl)); intro w8 hw; have hg : wr.grownBy w8 (some go5) := (by rw [hw]; exact HP7.2); have hp_ : Kd.R (Kd.int .i64) 3 w8 w0.heap.size (fun k_ => (P0_ k_ ∨ w.heap.size ≤ k_)) (.slice (some ⟨go5, 0, none⟩) x0_1.length co6) y544 := (by rw [hw, Ny544.out]; exact HP7.1); clear HP7; replace HK := Aside0.mk (Kept.of_grown (S := (fun k_ => P0_ k_)) hg (by repeat (first | (with_reducible first | exact HK.out | apply Kept.alloc | apply Kept.drewN | apply Kept.drew) | exact HK.out)) (fun k_ e_ => (HO_0.out.1 k_ e_))); replace HO_0 := Aside0.mk (hp_); replace HB := Aside0.mk ((by rw [hw]; exact below_set (HB.out) GB5.out : Below w0.heap.size w0 w8)); clear hg hw hp_))
     go_roundg k1
     case measure => have := HK1.out; omega
     case rel => exact ⟨(y544), (wrap64 (x1_1 + 1)), (wrap64 (x5_1 + 1)), ev, ev, H', ⟨oa HK1⟩, ⟨ro HO_0⟩, ⟨by repeat (first | (with_reducible first | exact HK.out | apply Kept.alloc | apply Kept.drewN | apply Kept.drew) | exact HK.out)⟩, ⟨bw⟩⟩
    ·rw [if_neg c4] at H
     exact absurd H (by simp)
   ·simp only [Option.some.injEq, Prod.mk.injEq] at H
    obtain ⟨rfl, rfl⟩ := H
    obtain ⟨Ao9, co9, eo9⟩ := Kd.R_slice HO_0.out
    subst eo9
    go_wp2
    go_ret
    exact ⟨rt, ro HO_0, bw, by repeat (first | (with_reducible first | exact HK.out | apply Kept.alloc | apply Kept.drewN | apply Kept.drew) | exact HK.out)⟩

end Go.Proofs.YtfhcnnkeokjfpaaDoor.PS1
namespace Go.Proofs.YtfhcnnkeokjfpaaDoor.PS1
open Go.RowKit Go.Proofs.YtfhcnnkeokjfpaaDoorW.PrintWords Go.Proofs.YtfhcnnkeokjfpaaDoorW.PrintLast Go.Proofs.YtfhcnnkeokjfpaaDoorW.PrintMore Go.Proofs.YtfhcnnkeokjfpaaDoor.T
attribute [local go_sem] max2_int min2_int max_two min_two max_three min_three max_four min_four   -- for this text's walks alone
set_option linter.unusedVariables false
set_option linter.unusedSimpArgs false

/-! ### laws_markWarp: function 20 -/
def laws_markWarp.f (k : Nat) (a0_0 : Int) (l0_1 : List Int) (l0_2 : List Int) (a0_3 : Int) (a0_4 : Int) (a0_5 : Int) (a0_6 : Int) (a0_7 : Int) (a1 : Int) : Option (Int × List Int × List Int) := (laws_markIntS.f k l0_1 a1).bind fun bt546 => ((laws_markIntS.f k l0_2 bt546.1).bind fun bt548 => (some (bt548.1, bt546.2, bt548.2)))
theorem laws_markWarp.mono : ∀ a0 a1 a2 a3 a4 a5 a6 a7 a8 k, LeO (laws_markWarp.f k a0 a1 a2 a3 a4 a5 a6 a7 a8) (laws_markWarp.f (k + 1) a0 a1 a2 a3 a4 a5 a6 a7 a8) := by
 intro a0 a1 a2 a3 a4 a5 a6 a7 a8 k
 unfold laws_markWarp.f
 repeat' first
  | (with_reducible first | exact laws_markIntS.mono .. | exact LeO.refl _ | exact LeO.none _ | refine LeO.ite ?_ ?_ | refine LeO.bind ?_ (fun _ => ?_))
  | exact LeO.none _ | refine LeO.ite ?_ ?_ | refine LeO.bind ?_ (fun _ => ?_)
set_option maxHeartbeats 2000000 in
set_option maxRecDepth 100000 in
theorem laws_markWarp.calls (k : Nat) (a0_0 : Int) (P0_1_ : Nat → Prop) (u9000_ : Value) (l0_1 : List Int) (P0_2_ : Nat → Prop) (u9001_ : Value) (l0_2 : List Int) (a0_3 : Int) (a0_4 : Int) (a0_5 : Int) (a0_6 : Int) (a0_7 : Int) (a1 : Int) (r1 : Int) (r2 : List Int) (r3 : List Int) (w0 w : World) (hB : Below w0.heap.size w0 w) (ho0_1 : Kd.R (Kd.int .i64) 3 w w0.heap.size P0_1_ u9000_ l0_1) (hp0_1_0_2 : ∀ k_, P0_1_ k_ → ¬ P0_2_ k_) (ho0_2 : Kd.R (Kd.int .i64) 3 w w0.heap.size P0_2_ u9001_ l0_2) (hp0_2_0_1 : ∀ k_, P0_2_ k_ → ¬ P0_1_ k_) (h : laws_markWarp.f k a0_0 l0_1 l0_2 a0_3 a0_4 a0_5 a0_6 a0_7 a1 = some (r1, r2, r3)) :
  Calls Tryd.prog 20 #[.agg #[.int .i64 a0_0, u9000_, u9001_, .int .u32 a0_3, .int .i64 a0_4, .int .i64 a0_5, .int .i64 a0_6, .int .u32 a0_7], .int .i64 a1] w fun e w' => e = .returned (.int .i64 r1) ∧ Kd.R (Kd.int .i64) 3 w' w0.heap.size (fun k_ => ((P0_1_ k_ ∨ P0_2_ k_) ∨ w.heap.size ≤ k_)) u9000_ r2 ∧ Kd.R (Kd.int .i64) 3 w' w0.heap.size (fun k_ => ((P0_1_ k_ ∨ P0_2_ k_) ∨ w.heap.size ≤ k_)) u9001_ r3 ∧ Below w0.heap.size w0 w' ∧ Kept w w' (fun k_ => P0_1_ k_ ∨ P0_2_ k_) := by
 have hu28 := Tryd.underlying28
 have HO0_1 := Aside0.mk (show Kd.R (Kd.int .i64) 3 w w0.heap.size (fun k_ => ((P0_1_ k_ ∨ P0_2_ k_) ∨ w.heap.size ≤ k_) ∧ some k_ ≠ (u9001_ : Value).ownBlock) u9000_ l0_1 from Kd.R_mono ho0_1 (fun k_ hk => ⟨(.inl (.inl hk)), fun e_ => hp0_1_0_2 k_ hk (ho0_2.1 k_ e_.symm)⟩))
 have HO0_2 := Aside0.mk (show Kd.R (Kd.int .i64) 3 w w0.heap.size (fun k_ => ((P0_1_ k_ ∨ P0_2_ k_) ∨ w.heap.size ≤ k_) ∧ some k_ ≠ (u9000_ : Value).ownBlock) u9001_ l0_2 from Kd.R_mono ho0_2 (fun k_ hk => ⟨(.inl (.inr hk)), fun e_ => hp0_2_0_1 k_ hk (ho0_1.1 k_ e_.symm)⟩))
 have HK := Aside0.mk (Kept.refl w (fun k_ => P0_1_ k_ ∨ P0_2_ k_))
 have HW0 := Aside0.mk hB.size
 have HB := Aside0.mk hB
 clear hB
 unfold laws_markWarp.f at h
 have H := h
 clear h
 replace H := bn H
 obtain ⟨⟨t546, t547⟩, A3, H⟩ := H
 try dsimp only at H
 replace H := bn H
 obtain ⟨⟨t548, t549⟩, A4, H⟩ := H
 try dsimp only at H
 simp only [Option.some.injEq, Prod.mk.injEq] at H
 obtain ⟨rfl, rfl, rfl⟩ := H
 obtain ⟨Ao5, co5, eo5⟩ := Kd.R_slice HO0_1.out
 subst eo5
 obtain ⟨Ao6, co6, eo6⟩ := Kd.R_slice HO0_2.out
 subst eo6
 go_enter Tryd.func20, Tryd.ntmps20
 go_wp2_with (first | ((with_reducible refine gd 2 ?_); refine bx0 2 28 #[.int .i64 a0_0, .slice Ao5 l0_1.length co5, .slice Ao6 l0_2.length co6, .int .u32 a0_3, .int .i64 a0_4, .int .i64 a0_5, .int .i64 a0_6, .int .u32 a0_7] ?_; intro gb545 hg w7 hbox hb; replace HO0_1 := Aside0.mk (Kd.R_below (ro HO0_1) hb); replace HO0_2 := Aside0.mk (Kd.R_below (ro HO0_2) hb); have BK545 := Aside0.mk hbox; have GW545 := Aside0.mk ((by rw [hg]; exact (by first | exact HK.out.1 | exact (show Kept w _ (fun k_ => P0_1_ k_ ∨ P0_2_ k_) from by repeat (first | (with_reducible first | exact HK.out | apply Kept.alloc | apply Kept.drewN | apply Kept.drew) | exact HK.out)).1) : w.heap.size ≤ gb545)); replace HK := Aside0.mk (Kept.below (S := (fun k_ => P0_1_ k_ ∨ P0_2_ k_)) (by repeat (first | (with_reducible first | exact HK.out | apply Kept.alloc | apply Kept.drewN | apply Kept.drew) | exact HK.out)) hb); have GE545 := Aside0.mk ((by rw [hg]; exact (below_size bw) : w0.heap.size ≤ gb545)); replace HB := hs hb; clear hb hbox hg; obtain ⟨z8_0, z8_1, z8_2, z8_3, z8_4, z8_5, z8_6, z8_7⟩ := ca8 BK545; obtain ⟨f8_0, f8_1, f8_2, f8_3, f8_4, f8_5, f8_6, f8_7⟩ := fa8 BK545) | ((with_reducible refine gf 50 ?_); refine gl 50 Tryd.func50 (some 8) #[.slice Ao5 l0_1.length co5, .int .i64 a1] ?_; (with_reducible refine (laws_markIntS.calls _ (fun k_ => some k_ = (.slice Ao5 l0_1.length co5 : Value).ownBlock) _ _ _ _ _ w0 _ ?side1 ?side2 A3.out).mono ?_); (case side1 => repeat (first | (with_reducible first | exact HB.out | apply below_alloc | apply pw_below_drewN | apply below_drew1 | refine below_set ?_ GE545.out) | exact HB.out)); (case side2 => exact Kd.R_tight rfl HO0_1.out); rintro e w9 ⟨rfl, hy0, hb, hkp⟩; refine ⟨_, rfl, ?_⟩; replace HO0_2 := Aside0.mk (Kd.R_mono (ok' := fun k_ => ((P0_1_ k_ ∨ P0_2_ k_) ∨ w.heap.size ≤ k_) ∧ some k_ ≠ (.slice Ao5 l0_1.length co5 : Value).ownBlock) (Kd.R_keptB (HO0_2.out) hkp (fun k_ hk_ hs_ => (hk_.2) hs_)) (fun k_ hk_ => ⟨hk_.1.1, hk_.1.2⟩)); replace BK545 := Aside0.mk (blk_kept (bk BK545) hkp (fun hs_ => (fun e_ => (Kd.R_ne HO0_1.out BK545.out (by decide)) e_) hs_)); replace HK := Aside0.mk (Kept.then_ (S := (fun k_ => P0_1_ k_ ∨ P0_2_ k_)) (by repeat (first | (with_reducible first | exact HK.out | apply Kept.alloc | apply Kept.drewN | apply Kept.drew | refine Kept.setCell ?_ (.inr GW545.out) _) | exact HK.out)) hkp (fun k_ hs_ => (fun e_ => (HO0_1.out.1 k_ e_.symm).1) hs_)); replace HO0_1 := Aside0.mk (Kd.R_reok rfl hy0 (fun k_ e_ => HO0_1.out.1 k_ e_)); replace HB := Aside0.mk (hb); (try clear hb); (try clear hkp); (try clear hy0); obtain ⟨z10_0, z10_1, z10_2, z10_3, z10_4, z10_5, z10_6, z10_7⟩ := ca8 BK545; obtain ⟨f10_0, f10_1, f10_2, f10_3, f10_4, f10_5, f10_6, f10_7⟩ := fa8 BK545) | ((with_reducible refine gf 50 ?_); refine gl 50 Tryd.func50 (some 12) #[.slice Ao6 l0_2.length co6, .int .i64 t546] ?_; (with_reducible refine (laws_markIntS.calls _ (fun k_ => some k_ = (.slice Ao6 l0_2.length co6 : Value).ownBlock) _ _ _ _ _ w0 _ ?side1 ?side2 A4.out).mono ?_); (case side1 => repeat (first | (with_reducible first | exact HB.out | apply below_alloc | apply pw_below_drewN | apply below_drew1 | refine below_set ?_ GE545.out) | exact HB.out)); (case side2 => exact Kd.R_tight rfl HO0_2.out); rintro e w11 ⟨rfl, hy0, hb, hkp⟩; refine ⟨_, rfl, ?_⟩; replace HO0_1 := Aside0.mk (Kd.R_mono (ok' := fun k_ => ((P0_1_ k_ ∨ P0_2_ k_) ∨ w.heap.size ≤ k_) ∧ some k_ ≠ (.slice Ao6 l0_2.length co6 : Value).ownBlock) (Kd.R_keptB (HO0_1.out) hkp (fun k_ hk_ hs_ => (hk_.2) hs_)) (fun k_ hk_ => ⟨hk_.1.1, hk_.1.2⟩)); replace BK545 := Aside0.mk (blk_kept (bk BK545) hkp (fun hs_ => (fun e_ => (Kd.R_ne HO0_2.out BK545.out (by decide)) e_) hs_)); replace HK := Aside0.mk (Kept.then_ (S := (fun k_ => P0_1_ k_ ∨ P0_2_ k_)) (by repeat (first | (with_reducible first | exact HK.out | apply Kept.alloc | apply Kept.drewN | apply Kept.drew | refine Kept.setCell ?_ (.inr GW545.out) _) | exact HK.out)) hkp (fun k_ hs_ => (fun e_ => (HO0_2.out.1 k_ e_.symm).1) hs_)); replace HO0_2 := Aside0.mk (Kd.R_reok rfl hy0 (fun k_ e_ => HO0_2.out.1 k_ e_)); replace HB := Aside0.mk (hb); (try clear hb); (try clear hkp); (try clear hy0)))
 go_ret
 exact ⟨rt, by (with_reducible repeat (first | apply Kd.R_alloc | apply Kd.R_drewN | apply Kd.R_drew)); exact Kd.R_mono HO0_1.out (fun _ hk => hk.1), by (with_reducible repeat (first | apply Kd.R_alloc | apply Kd.R_drewN | apply Kd.R_drew)); exact Kd.R_mono HO0_2.out (fun _ hk => hk.1), bw, by repeat (first | (with_reducible first | exact HK.out | apply Kept.alloc | apply Kept.drewN | apply Kept.drew | refine Kept.setCell ?_ (.inr GW545.out) _) | exact HK.out)⟩

/-! ### laws_markReq: function 21 -/
def laws_markReq.f (k : Nat) (a0_0 : Int) (l0_1 : List Int) (a1 : Int) : Option (Int × List Int) := (laws_markIntS.f k l0_1 a1).bind fun bt551 => (some (bt551.1, bt551.2))
theorem laws_markReq.mono : ∀ a0 a1 a2 k, LeO (laws_markReq.f k a0 a1 a2) (laws_markReq.f (k + 1) a0 a1 a2) := by
 intro a0 a1 a2 k
 unfold laws_markReq.f
 repeat' first
  | (with_reducible first | exact laws_markIntS.mono .. | exact LeO.refl _ | exact LeO.none _ | refine LeO.ite ?_ ?_ | refine LeO.bind ?_ (fun _ => ?_))
  | exact LeO.none _ | refine LeO.ite ?_ ?_ | refine LeO.bind ?_ (fun _ => ?_)
set_option maxHeartbeats 2000000 in
set_option maxRecDepth 100000 in
theorem laws_markReq.calls (k : Nat) (a0_0 : Int) (P0_1_ : Nat → Prop) (u9000_ : Value) (l0_1 : List Int) (a1 : Int) (r1 : Int) (r2 : List Int) (w0 w : World) (hB : Below w0.heap.size w0 w) (ho0_1 : Kd.R (Kd.int .i64) 3 w w0.heap.size P0_1_ u9000_ l0_1) (h : laws_markReq.f k a0_0 l0_1 a1 = some (r1, r2)) :
  Calls Tryd.prog 21 #[.agg #[.int .i64 a0_0, u9000_], .int .i64 a1] w fun e w' => e = .returned (.int .i64 r1) ∧ Kd.R (Kd.int .i64) 3 w' w0.heap.size (fun k_ => (P0_1_ k_ ∨ w.heap.size ≤ k_)) u9000_ r2 ∧ Below w0.heap.size w0 w' ∧ Kept w w' (fun k_ => P0_1_ k_) := by
 have hu39 := Tryd.underlying39
 have HO0_1 := Aside0.mk (show Kd.R (Kd.int .i64) 3 w w0.heap.size (fun k_ => (P0_1_ k_ ∨ w.heap.size ≤ k_)) u9000_ l0_1 from Kd.R_mono ho0_1 (fun k_ hk => (.inl hk)))
 have HK := Aside0.mk (Kept.refl w (fun k_ => P0_1_ k_))
 have HW0 := Aside0.mk hB.size
 have HB := Aside0.mk hB
 clear hB
 unfold laws_markReq.f at h
 have H := h
 clear h
 replace H := bn H
 obtain ⟨⟨t551, t552⟩, A3, H⟩ := H
 try dsimp only at H
 simp only [Option.some.injEq, Prod.mk.injEq] at H
 obtain ⟨rfl, rfl⟩ := H
 obtain ⟨Ao4, co4, eo4⟩ := Kd.R_slice HO0_1.out
 subst eo4
 go_enter Tryd.func21, Tryd.ntmps21
 go_wp2_with (first | ((with_reducible refine gd 2 ?_); refine bx0 2 39 #[.int .i64 a0_0, .slice Ao4 l0_1.length co4] ?_; intro gb550 hg w5 hbox hb; replace HO0_1 := Aside0.mk (Kd.R_below (ro HO0_1) hb); have BK550 := Aside0.mk hbox; have GW550 := Aside0.mk ((by rw [hg]; exact (by first | exact HK.out.1 | exact (show Kept w _ (fun k_ => P0_1_ k_) from by repeat (first | (with_reducible first | exact HK.out | apply Kept.alloc | apply Kept.drewN | apply Kept.drew) | exact HK.out)).1) : w.heap.size ≤ gb550)); replace HK := Aside0.mk (Kept.below (S := (fun k_ => P0_1_ k_)) (by repeat (first | (with_reducible first | exact HK.out | apply Kept.alloc | apply Kept.drewN | apply Kept.drew) | exact HK.out)) hb); have GE550 := Aside0.mk ((by rw [hg]; exact (below_size bw) : w0.heap.size ≤ gb550)); replace HB := hs hb; clear hb hbox hg; obtain ⟨z6_0, z6_1⟩ := ca2 BK550; obtain ⟨f6_0, f6_1⟩ := fa2 BK550) | ((with_reducible refine gf 50 ?_); refine gl 50 Tryd.func50 (some 8) #[.slice Ao4 l0_1.length co4, .int .i64 a1] ?_; (with_reducible refine (laws_markIntS.calls _ (fun k_ => some k_ = (.slice Ao4 l0_1.length co4 : Value).ownBlock) _ _ _ _ _ w0 _ ?side1 ?side2 A3.out).mono ?_); (case side1 => repeat (first | (with_reducible first | exact HB.out | apply below_alloc | apply pw_below_drewN | apply below_drew1 | refine below_set ?_ GE550.out) | exact HB.out)); (case side2 => exact Kd.R_tight rfl HO0_1.out); rintro e w7 ⟨rfl, hy0, hb, hkp⟩; refine ⟨_, rfl, ?_⟩; replace BK550 := Aside0.mk (blk_kept (bk BK550) hkp (fun hs_ => (fun e_ => (Kd.R_ne HO0_1.out BK550.out (by decide)) e_) hs_)); replace HK := Aside0.mk (Kept.then_ (S := (fun k_ => P0_1_ k_)) (by repeat (first | (with_reducible first | exact HK.out | apply Kept.alloc | apply Kept.drewN | apply Kept.drew | refine Kept.setCell ?_ (.inr GW550.out) _) | exact HK.out)) hkp (fun k_ hs_ => (fun e_ => (HO0_1.out.1 k_ e_.symm)) hs_)); replace HO0_1 := Aside0.mk (Kd.R_reok rfl hy0 (fun k_ e_ => HO0_1.out.1 k_ e_)); replace HB := Aside0.mk (hb); (try clear hb); (try clear hkp); (try clear hy0)))
 go_ret
 exact ⟨rt, ro HO0_1, bw, by repeat (first | (with_reducible first | exact HK.out | apply Kept.alloc | apply Kept.drewN | apply Kept.drew | refine Kept.setCell ?_ (.inr GW550.out) _) | exact HK.out)⟩

/-! ### laws_heldIntS: function 51 -/
def laws_heldIntS.l0 : Nat → List Int → Int → Int → Option (Int)
 | 0, _, _, _ => none
 | k + 1, x0, x1, x5 => if x5 < (x0.length : Int) then (if 0 ≤ x5 then (if (rd x0 x5) = x1 then (laws_heldIntS.l0 k x0 (wrap64 (x1 + 1)) (wrap64 (x5 + 1))) else (some (-1))) else (none)) else (some x1)
def laws_heldIntS.f (k : Nat) (l0 : List Int) (a1 : Int) : Option (Int) := laws_heldIntS.l0 k l0 a1 0
theorem laws_heldIntS.mono_l : ∀ k, (∀ y0 y1 y2, LeO (laws_heldIntS.l0 k y0 y1 y2) (laws_heldIntS.l0 (k + 1) y0 y1 y2))
 | 0 => fun _ _ _ r h => by simp [laws_heldIntS.l0] at h
 | k + 1 => by
  have ih0 := laws_heldIntS.mono_l k
  ·intro y0 y1 y2
   unfold laws_heldIntS.l0
   repeat' first
    | (with_reducible first | exact ih0 .. | exact LeO.refl _ | exact LeO.none _ | refine LeO.ite ?_ ?_ | refine LeO.bind ?_ (fun _ => ?_))
    | exact LeO.none _ | refine LeO.ite ?_ ?_ | refine LeO.bind ?_ (fun _ => ?_)
theorem laws_heldIntS.mono : ∀ a0 a1 k, LeO (laws_heldIntS.f k a0 a1) (laws_heldIntS.f (k + 1) a0 a1) := by
 intro a0 a1 k
 have ih0 := laws_heldIntS.mono_l k
 unfold laws_heldIntS.f
 repeat' first
  | (with_reducible first | exact ih0 .. | exact LeO.refl _ | exact LeO.none _ | refine LeO.ite ?_ ?_ | refine LeO.bind ?_ (fun _ => ?_))
  | exact LeO.none _ | refine LeO.ite ?_ ?_ | refine LeO.bind ?_ (fun _ => ?_)
set_option maxHeartbeats 2000000 in
set_option maxRecDepth 100000 in
theorem laws_heldIntS.calls (k : Nat) (A0 : Option Addr) (c0 : Nat) (l0 : List Int) (a1 : Int) (r : Int) (w : World) (hr0 : Kd.C (Kd.int .i64) w A0 l0.length l0) (hc0 : l0.length ≤ c0) (h : laws_heldIntS.f k l0 a1 = some r) :
  Calls Tryd.prog 51 #[.slice A0 l0.length c0, .int .i64 a1] w fun e w' => e = .returned (.int .i64 r) ∧ Drawn0 w w' := by
 have HR0 := Aside0.mk hr0
 have HC0 := Aside0.mk hc0
 clear hr0 hc0
 unfold laws_heldIntS.f at h
 have H := h
 clear h
 have H' := Aside0.mk H
 clear H
 go_enter Tryd.func51, Tryd.ntmps51
 go_wp2
 go_loopg [1, 5] k (fun kq v1 v5 w' => ∃ (x1_1 : Int) (x5_1 : Int), v1 = .int .i64 x1_1 ∧ v5 = .int .i64 x5_1 ∧ Aside0 (laws_heldIntS.l0 kq l0 x1_1 x5_1 = some r) ∧ Aside0 (kq ≤ k) ∧ Drawn0 w w')
 case atStart => exact ⟨(a1), (0), ev, ev, H', ⟨Nat.le_refl _⟩, dr⟩
 case round =>
  clear H'
  obtain ⟨x1_1, x5_1, rfl, rfl, HA, HK1, ⟨m1, rfl⟩⟩ := hrel
  cases gk with
  | zero => exact absurd HA.out (by simp [laws_heldIntS.l0])
  | succ k1 =>
   have H := HA.out
   clear HA
   simp only [laws_heldIntS.l0] at H
   replace H := ilt H
   rcases H with ⟨c3b0, H⟩ | ⟨c3b0, H⟩
   ·by_cases c4 : 0 ≤ x5_1
    ·rw [if_pos c4] at H
     have c4b0 : decide (0 ≤ x5_1) = true := decide_eq_true c4
     clear c4
     replace H := ieq H
     rcases H with ⟨c5b0, c5b1, H⟩ | ⟨c5, c5b0, c5b1, H⟩
     ·have H' := Aside0.mk H
      clear H
      have p553 : 0 ≤ (x5_1 : Int) := of_decide_eq_true as_
      have q553 : x5_1 < (l0.length : Int) := of_decide_eq_true as_
      obtain ⟨ad553, e553, hx553_0⟩ := Kd.at_int HR0.out x5_1 p553 q553
      cases e553
      replace p553 := eq_true p553
      replace q553 := eq_true q553
      go_wp2
      go_roundg k1
      case measure => have := HK1.out; omega
      case rel => exact ⟨(wrap64 (x1_1 + 1)), (wrap64 (x5_1 + 1)), ev, ev, H', ⟨oa HK1⟩, dr⟩
     ·obtain rfl := Option.some.inj H
      have p553 : 0 ≤ (x5_1 : Int) := of_decide_eq_true as_
      have q553 : x5_1 < (l0.length : Int) := of_decide_eq_true as_
      obtain ⟨ad553, e553, hx553_0⟩ := Kd.at_int HR0.out x5_1 p553 q553
      cases e553
      replace p553 := eq_true p553
      replace q553 := eq_true q553
      go_wp2
      go_ret
      exact ⟨ev, dr⟩
    ·rw [if_neg c4] at H
     exact absurd H (by simp)
   ·obtain rfl := Option.some.inj H
    go_wp2
    go_ret
    exact ⟨ev, dr⟩

/-! ### laws_heldWarp: function 22 -/
def laws_heldWarp.f (k : Nat) (a0_0 : Int) (l0_1 : List Int) (l0_2 : List Int) (a0_3 : Int) (a0_4 : Int) (a0_5 : Int) (a0_6 : Int) (a0_7 : Int) (a1 : Int) : Option (Int) := (laws_heldIntS.f k l0_1 a1).bind fun t555 => (if t555 < 0 then (some (-1)) else ((laws_heldIntS.f k l0_2 t555).bind fun t556 => (if t556 < 0 then (some (-1)) else (some t556))))
theorem laws_heldWarp.mono : ∀ a0 a1 a2 a3 a4 a5 a6 a7 a8 k, LeO (laws_heldWarp.f k a0 a1 a2 a3 a4 a5 a6 a7 a8) (laws_heldWarp.f (k + 1) a0 a1 a2 a3 a4 a5 a6 a7 a8) := by
 intro a0 a1 a2 a3 a4 a5 a6 a7 a8 k
 unfold laws_heldWarp.f
 repeat' first
  | (with_reducible first | exact laws_heldIntS.mono .. | exact LeO.refl _ | exact LeO.none _ | refine LeO.ite ?_ ?_ | refine LeO.bind ?_ (fun _ => ?_))
  | exact LeO.none _ | refine LeO.ite ?_ ?_ | refine LeO.bind ?_ (fun _ => ?_)
set_option maxHeartbeats 2000000 in
set_option maxRecDepth 100000 in
theorem laws_heldWarp.calls (k : Nat) (a0_0 : Int) (A0_1 : Option Addr) (c0_1 : Nat) (l0_1 : List Int) (A0_2 : Option Addr) (c0_2 : Nat) (l0_2 : List Int) (a0_3 : Int) (a0_4 : Int) (a0_5 : Int) (a0_6 : Int) (a0_7 : Int) (a1 : Int) (r : Int) (w : World) (hr0_1 : Kd.C (Kd.int .i64) w A0_1 l0_1.length l0_1) (hc0_1 : l0_1.length ≤ c0_1) (hr0_2 : Kd.C (Kd.int .i64) w A0_2 l0_2.length l0_2) (hc0_2 : l0_2.length ≤ c0_2) (h : laws_heldWarp.f k a0_0 l0_1 l0_2 a0_3 a0_4 a0_5 a0_6 a0_7 a1 = some r) :
  Calls Tryd.prog 22 #[.agg #[.int .i64 a0_0, .slice A0_1 l0_1.length c0_1, .slice A0_2 l0_2.length c0_2, .int .u32 a0_3, .int .i64 a0_4, .int .i64 a0_5, .int .i64 a0_6, .int .u32 a0_7], .int .i64 a1] w fun e w' => e = .returned (.int .i64 r) ∧ Below w.heap.size w w' := by
 have hu28 := Tryd.underlying28
 have HR0_1 := Aside0.mk hr0_1
 have HC0_1 := Aside0.mk hc0_1
 clear hr0_1 hc0_1
 have HR0_2 := Aside0.mk hr0_2
 have HC0_2 := Aside0.mk hc0_2
 clear hr0_2 hc0_2
 have HB := Aside0.mk (Below.refl w.heap.size w)
 unfold laws_heldWarp.f at h
 have H := h
 clear h
 replace H := bn H
 obtain ⟨t555, A3, H⟩ := H
 try dsimp only at H
 have HU4 := Aside0.mk H
 clear H
 go_enter Tryd.func22, Tryd.ntmps22
 go_upto_if 10 with (first | ((with_reducible refine gd 2 ?_); refine bx 2 28 #[.int .i64 a0_0, .slice A0_1 l0_1.length c0_1, .slice A0_2 l0_2.length c0_2, .int .u32 a0_3, .int .i64 a0_4, .int .i64 a0_5, .int .i64 a0_6, .int .u32 a0_7] ?_; clear HB; intro gb554 w5 hg BK554 hb GE554 HB; clear hb hg; obtain ⟨z6_0, z6_1, z6_2, z6_3, z6_4, z6_5, z6_6, z6_7⟩ := ca8 BK554; obtain ⟨f6_0, f6_1, f6_2, f6_3, f6_4, f6_5, f6_6, f6_7⟩ := fa8 BK554) | ((with_reducible refine gf 51 ?_); refine gc Tryd.func51 (some 8) (laws_heldIntS.calls _ A0_1 c0_1 _ _ _ _ (cb HR0_1) HC0_1.out A3.out) ?_; rintro e w' ⟨rfl, ⟨nd, rfl⟩⟩; refine ⟨_, rfl, ?_⟩))
 (try refine ap ?_)
 have H := HU4.out
 clear HU4
 replace H := ilt H
 rcases H with ⟨c7b0, H⟩ | ⟨c7b0, H⟩
 ·(first | rw [c7b0] | (simp only [i64_w, i32_w]; rw [c7b0]) | (simp only [c7b2, Bool.not_true, Bool.not_false]) | (simp only [c7b1, Bool.not_true, Bool.not_false]) | skip)
  obtain rfl := Option.some.inj H
  go_wp2
  go_ret
  exact ⟨rt, bw⟩
 ·(first | rw [c7b0] | (simp only [i64_w, i32_w]; rw [c7b0]) | (simp only [c7b2, Bool.not_true, Bool.not_false]) | (simp only [c7b1, Bool.not_true, Bool.not_false]) | skip)
  replace H := bn H
  obtain ⟨t556, A8, H⟩ := H
  try dsimp only at H
  have HU9 := Aside0.mk H
  clear H
  obtain ⟨z10_0, z10_1, z10_2, z10_3, z10_4, z10_5, z10_6, z10_7⟩ := ca8 BK554
  obtain ⟨f10_0, f10_1, f10_2, f10_3, f10_4, f10_5, f10_6, f10_7⟩ := fa8 BK554
  go_upto_if 16 with (first | ((with_reducible refine gf 51 ?_); refine gc Tryd.func51 (some 14) (laws_heldIntS.calls _ A0_2 c0_2 _ _ _ _ (cb HR0_2) HC0_2.out A8.out) ?_; rintro e w' ⟨rfl, ⟨nd, rfl⟩⟩; refine ⟨_, rfl, ?_⟩))
  (try refine ap ?_)
  have H := HU9.out
  clear HU9
  replace H := ilt H
  rcases H with ⟨c11b0, H⟩ | ⟨c11b0, H⟩
  ·(first | rw [c11b0] | (simp only [i64_w, i32_w]; rw [c11b0]) | (simp only [c11b2, Bool.not_true, Bool.not_false]) | (simp only [c11b1, Bool.not_true, Bool.not_false]) | skip)
   obtain rfl := Option.some.inj H
   go_wp2
   go_ret
   exact ⟨rt, bw⟩
  ·(first | rw [c11b0] | (simp only [i64_w, i32_w]; rw [c11b0]) | (simp only [c11b2, Bool.not_true, Bool.not_false]) | (simp only [c11b1, Bool.not_true, Bool.not_false]) | skip)
   obtain rfl := Option.some.inj H
   go_wp2
   go_ret
   exact ⟨rt, bw⟩

end Go.Proofs.YtfhcnnkeokjfpaaDoor.PS1
namespace Go.Proofs.YtfhcnnkeokjfpaaDoor.PS1
open Go.RowKit Go.Proofs.YtfhcnnkeokjfpaaDoorW.PrintWords Go.Proofs.YtfhcnnkeokjfpaaDoorW.PrintLast Go.Proofs.YtfhcnnkeokjfpaaDoorW.PrintMore Go.Proofs.YtfhcnnkeokjfpaaDoor.T
attribute [local go_sem] max2_int min2_int max_two min_two max_three min_three max_four min_four   -- for this text's walks alone
set_option linter.unusedVariables false
set_option linter.unusedSimpArgs false

theorem shl_one_ (n : Int) : shl IntKind.u32 1 n = 2 ^ n.toNat % 4294967296 := by
 have e : shl IntKind.u32 1 n = IntKind.u32.wrap (1 * 2 ^ min n.toNat 32) := rfl
 rw [e]
 have w : ∀ x : Int, IntKind.u32.wrap x = x % 4294967296 := fun x => by simp [IntKind.wrap, IntKind.signed, IntKind.bits]
 rw [w, Int.one_mul]
 by_cases h : n.toNat ≤ 32
 ·rw [Nat.min_eq_left h]
 ·rw [Nat.min_eq_right (by omega)]
  obtain ⟨d, hd⟩ : ∃ d, n.toNat = 32 + d := ⟨n.toNat - 32, by omega⟩
  rw [hd, Int.pow_add]
  have h2 : (2 : Int) ^ 32 = 4294967296 := by decide
  rw [h2]
  omega

/-! ### impl_isMask: function 73 -/
def impl_isMask.f (a0 : Int) : Option (Bool) := some (decide (a0 < 256))
set_option maxHeartbeats 2000000 in
set_option maxRecDepth 100000 in
theorem impl_isMask.calls (a0 : Int) (r : Bool) (w : World) (h : impl_isMask.f a0 = some r) :
  Calls Tryd.prog 73 #[.int .u32 a0] w fun e w' => e = .returned (.bool r) ∧ Drawn0 w w' := by
 unfold impl_isMask.f at h
 have H := h
 clear h
 obtain rfl := Option.some.inj H
 go_enter Tryd.func73, Tryd.ntmps73
 go_wp2
 go_ret
 exact ⟨ev, dr⟩

/-! ### impl_asks: function 74 -/
def impl_asks.l0 : Nat → Int → List Int → Int → Int → Int → List Int → Option (Int)
 | 0, _, _, _, _, _, _ => none
 | k + 1, x3, x7, x8, x9, x252000, x252001 => if x9 < x8 then (if 0 ≤ x9 then (if x9 < (x7.length : Int) then (if x252000 = 1 then (if (rd x7 x9) > 0 then (impl_asks.l0 k (Go.bits .or .u32 x3 (shl .u32 1 x9)) x7 x8 (wrap64 (x9 + 1)) x252000 x252001) else (if x252000 = 2 then (if (rd x7 x9) ≥ 0 then (impl_asks.l0 k (Go.bits .or .u32 x3 (shl .u32 1 x9)) x7 x8 (wrap64 (x9 + 1)) x252000 x252001) else (impl_asks.l0 k x3 x7 x8 (wrap64 (x9 + 1)) x252000 x252001)) else (impl_asks.l0 k x3 x7 x8 (wrap64 (x9 + 1)) x252000 x252001))) else (if x252000 = 2 then (if (rd x7 x9) ≥ 0 then (impl_asks.l0 k (Go.bits .or .u32 x3 (shl .u32 1 x9)) x7 x8 (wrap64 (x9 + 1)) x252000 x252001) else (impl_asks.l0 k x3 x7 x8 (wrap64 (x9 + 1)) x252000 x252001)) else (impl_asks.l0 k x3 x7 x8 (wrap64 (x9 + 1)) x252000 x252001))) else (none)) else (none)) else (some x3)
def impl_asks.f (k : Nat) (a0_0 : Int) (l0_1 : List Int) : Option (Int) := impl_asks.l0 k 0 l0_1 (l0_1.length : Int) 0 a0_0 l0_1
theorem impl_asks.mono_l : ∀ k, (∀ y0 y1 y2 y3 y4 y5, LeO (impl_asks.l0 k y0 y1 y2 y3 y4 y5) (impl_asks.l0 (k + 1) y0 y1 y2 y3 y4 y5))
 | 0 => fun _ _ _ _ _ _ r h => by simp [impl_asks.l0] at h
 | k + 1 => by
  have ih0 := impl_asks.mono_l k
  ·intro y0 y1 y2 y3 y4 y5
   unfold impl_asks.l0
   repeat' first
    | (with_reducible first | exact ih0 .. | exact LeO.refl _ | exact LeO.none _ | refine LeO.ite ?_ ?_ | refine LeO.bind ?_ (fun _ => ?_))
    | exact LeO.none _ | refine LeO.ite ?_ ?_ | refine LeO.bind ?_ (fun _ => ?_)
theorem impl_asks.mono : ∀ a0 a1 k, LeO (impl_asks.f k a0 a1) (impl_asks.f (k + 1) a0 a1) := by
 intro a0 a1 k
 have ih0 := impl_asks.mono_l k
 unfold impl_asks.f
 repeat' first
  | (with_reducible first | exact ih0 .. | exact LeO.refl _ | exact LeO.none _ | refine LeO.ite ?_ ?_ | refine LeO.bind ?_ (fun _ => ?_))
  | exact LeO.none _ | refine LeO.ite ?_ ?_ | refine LeO.bind ?_ (fun _ => ?_)
set_option maxHeartbeats 2000000 in
set_option maxRecDepth 100000 in
theorem impl_asks.calls (k : Nat) (a0_0 : Int) (A0_1 : Option Addr) (c0_1 : Nat) (l0_1 : List Int) (r : Int) (w : World) (hr0_1 : Kd.C (Kd.int .i64) w A0_1 l0_1.length l0_1) (hc0_1 : l0_1.length ≤ c0_1) (h : impl_asks.f k a0_0 l0_1 = some r) :
  Calls Tryd.prog 74 #[.agg #[.int .i64 a0_0, .slice A0_1 l0_1.length c0_1]] w fun e w' => e = .returned (.int .u32 r) ∧ Below w.heap.size w w' := by
 have hu39 := Tryd.underlying39
 have HR0_1 := Aside0.mk hr0_1
 have HC0_1 := Aside0.mk hc0_1
 clear hr0_1 hc0_1
 have HB := Aside0.mk (Below.refl w.heap.size w)
 unfold impl_asks.f at h
 have H := h
 clear h
 have H' := Aside0.mk H
 clear H
 go_enter Tryd.func74, Tryd.ntmps74
 go_wp2_with (first | ((with_reducible refine gd 1 ?_); refine bx 1 39 #[.int .i64 a0_0, .slice A0_1 l0_1.length c0_1] ?_; clear HB; intro gb251 w2 hg BK251 hb GE251 HB; clear hb hg; obtain ⟨z3_0, z3_1⟩ := ca2 BK251; obtain ⟨f3_0, f3_1⟩ := fa2 BK251))
 go_loopg [3, 9] k (fun kq v3 v9 w' => ∃ (x3_1 : Int) (x9_1 : Int), v3 = .int .u32 x3_1 ∧ v9 = .int .i64 x9_1 ∧ Aside0 (impl_asks.l0 kq x3_1 l0_1 (l0_1.length : Int) x9_1 a0_0 l0_1 = some r) ∧ Aside0 (kq ≤ k) ∧ Aside0 (w'.heap[gb251]? = some (.cells #[.int .i64 a0_0, (.slice A0_1 l0_1.length c0_1)] 39 (0, 0))) ∧ Aside0 (Below w.heap.size w w'))
 case atStart => exact ⟨(0), (0), ev, ev, H', ⟨Nat.le_refl _⟩, ⟨bk BK251⟩, ⟨bw⟩⟩
 case round =>
  clear H'
  (try clear z3_0 z3_1)
  (try clear f3_0 f3_1)
  obtain ⟨x3_1, x9_1, rfl, rfl, HA, HK1, BK251, HB⟩ := hrel
  cases gk with
  | zero => exact absurd HA.out (by simp [impl_asks.l0])
  | succ k1 =>
   have H := HA.out
   clear HA
   simp only [impl_asks.l0] at H
   replace H := ilt H
   rcases H with ⟨c4b0, H⟩ | ⟨c4b0, H⟩
   ·by_cases c5 : 0 ≤ x9_1
    ·rw [if_pos c5] at H
     have c5b0 : decide (0 ≤ x9_1) = true := decide_eq_true c5
     clear c5
     by_cases c6 : x9_1 < (l0_1.length : Int)
     ·rw [if_pos c6] at H
      have c6b0 : decide (x9_1 < (l0_1.length : Int)) = true := decide_eq_true c6
      clear c6
      replace H := ieq H
      rcases H with ⟨c7b0, c7b1, H⟩ | ⟨c7, c7b0, c7b1, H⟩
      ·replace H := igt H
       rcases H with ⟨c8b0, H⟩ | ⟨c8b0, H⟩
       ·have c9b0 := eq_true (of_decide_eq_true as_ : 0 ≤ x9_1)
        obtain ⟨ji10, hji10⟩ : ∃ j_ : Int, (shl .u32 1 x9_1) = j_ := ⟨_, rfl⟩
        first | rw [hji10] at H | simp only [hji10] at H
        have hji10_ : (IntKind.u32.wrap (1 * 2 ^ min x9_1.toNat 32)) = ji10 := hji10
        have hji10z : x9_1 ≤ 32 → (IntKind.u32.wrap (1 * 2 ^ x9_1.toNat)) = ji10 := shl_small hji10
        have hji10u : (IntKind.u32.wrap (2 ^ min x9_1.toNat 32)) = ji10 := by have h_ := hji10_; rw [Int.one_mul] at h_; exact h_
        have hji10v : x9_1 ≤ 32 → (IntKind.u32.wrap (2 ^ x9_1.toNat)) = ji10 := fun hle_ => by have h_ := hji10z hle_; rw [Int.one_mul] at h_; exact h_
        have H' := Aside0.mk H
        clear H
        have p252 : 0 ≤ (x9_1 : Int) := of_decide_eq_true as_
        have q252 : x9_1 < (l0_1.length : Int) := of_decide_eq_true as_
        obtain ⟨ad252, e252, hx252_0⟩ := Kd.at_int HR0_1.out x9_1 p252 q252
        cases e252
        replace hx252_0 := cl HB hx252_0
        replace p252 := eq_true p252
        replace q252 := eq_true q252
        obtain ⟨z11_0, z11_1⟩ := ca2 BK251
        obtain ⟨f11_0, f11_1⟩ := fa2 BK251
        go_wp2
        go_roundg k1
        case measure => have := HK1.out; omega
        case rel => exact ⟨(Go.bits .or .u32 x3_1 (ji10)), (wrap64 (x9_1 + 1)), (by first | rfl | (simp; done) | (simp only [← hji10] <;> (first | rfl | (rw [shl_one_]; done) | simp)) | (simp [*]; done)), ev, H', ⟨oa HK1⟩, ⟨bk BK251⟩, ⟨bw⟩⟩
       ·replace H := ieq H
        rcases H with ⟨c12b0, c12b1, H⟩ | ⟨c12, c12b0, c12b1, H⟩
        ·replace H := ige H
         rcases H with ⟨c13b0, H⟩ | ⟨c13b0, H⟩
         ·have c14b0 := eq_true (of_decide_eq_true as_ : 0 ≤ x9_1)
          obtain ⟨ji15, hji15⟩ : ∃ j_ : Int, (shl .u32 1 x9_1) = j_ := ⟨_, rfl⟩
          first | rw [hji15] at H | simp only [hji15] at H
          have hji15_ : (IntKind.u32.wrap (1 * 2 ^ min x9_1.toNat 32)) = ji15 := hji15
          have hji15z : x9_1 ≤ 32 → (IntKind.u32.wrap (1 * 2 ^ x9_1.toNat)) = ji15 := shl_small hji15
          have hji15u : (IntKind.u32.wrap (2 ^ min x9_1.toNat 32)) = ji15 := by have h_ := hji15_; rw [Int.one_mul] at h_; exact h_
          have hji15v : x9_1 ≤ 32 → (IntKind.u32.wrap (2 ^ x9_1.toNat)) = ji15 := fun hle_ => by have h_ := hji15z hle_; rw [Int.one_mul] at h_; exact h_
          have H' := Aside0.mk H
          clear H
          have p252 : 0 ≤ (x9_1 : Int) := of_decide_eq_true as_
          have q252 : x9_1 < (l0_1.length : Int) := of_decide_eq_true as_
          obtain ⟨ad252, e252, hx252_0⟩ := Kd.at_int HR0_1.out x9_1 p252 q252
          cases e252
          replace hx252_0 := cl HB hx252_0
          replace p252 := eq_true p252
          replace q252 := eq_true q252
          obtain ⟨z16_0, z16_1⟩ := ca2 BK251
          obtain ⟨f16_0, f16_1⟩ := fa2 BK251
          go_wp2
          go_roundg k1
          case measure => have := HK1.out; omega
          case rel => exact ⟨(Go.bits .or .u32 x3_1 (ji15)), (wrap64 (x9_1 + 1)), (by first | rfl | (simp; done) | (simp only [← hji15] <;> (first | rfl | (rw [shl_one_]; done) | simp)) | (simp [*]; done)), ev, H', ⟨oa HK1⟩, ⟨bk BK251⟩, ⟨bw⟩⟩
         ·have H' := Aside0.mk H
          clear H
          have p252 : 0 ≤ (x9_1 : Int) := of_decide_eq_true as_
          have q252 : x9_1 < (l0_1.length : Int) := of_decide_eq_true as_
          obtain ⟨ad252, e252, hx252_0⟩ := Kd.at_int HR0_1.out x9_1 p252 q252
          cases e252
          replace hx252_0 := cl HB hx252_0
          replace p252 := eq_true p252
          replace q252 := eq_true q252
          obtain ⟨z17_0, z17_1⟩ := ca2 BK251
          obtain ⟨f17_0, f17_1⟩ := fa2 BK251
          go_wp2
          go_roundg k1
          case measure => have := HK1.out; omega
          case rel => exact ⟨(x3_1), (wrap64 (x9_1 + 1)), ev, ev, H', ⟨oa HK1⟩, ⟨bk BK251⟩, ⟨bw⟩⟩
        ·have H' := Aside0.mk H
         clear H
         have p252 : 0 ≤ (x9_1 : Int) := of_decide_eq_true as_
         have q252 : x9_1 < (l0_1.length : Int) := of_decide_eq_true as_
         obtain ⟨ad252, e252, hx252_0⟩ := Kd.at_int HR0_1.out x9_1 p252 q252
         cases e252
         replace hx252_0 := cl HB hx252_0
         replace p252 := eq_true p252
         replace q252 := eq_true q252
         obtain ⟨z18_0, z18_1⟩ := ca2 BK251
         obtain ⟨f18_0, f18_1⟩ := fa2 BK251
         go_wp2
         go_roundg k1
         case measure => have := HK1.out; omega
         case rel => exact ⟨(x3_1), (wrap64 (x9_1 + 1)), ev, ev, H', ⟨oa HK1⟩, ⟨bk BK251⟩, ⟨bw⟩⟩
      ·replace H := ieq H
       rcases H with ⟨c19b0, c19b1, H⟩ | ⟨c19, c19b0, c19b1, H⟩
       ·replace H := ige H
        rcases H with ⟨c20b0, H⟩ | ⟨c20b0, H⟩
        ·have c21b0 := eq_true (of_decide_eq_true as_ : 0 ≤ x9_1)
         obtain ⟨ji22, hji22⟩ : ∃ j_ : Int, (shl .u32 1 x9_1) = j_ := ⟨_, rfl⟩
         first | rw [hji22] at H | simp only [hji22] at H
         have hji22_ : (IntKind.u32.wrap (1 * 2 ^ min x9_1.toNat 32)) = ji22 := hji22
         have hji22z : x9_1 ≤ 32 → (IntKind.u32.wrap (1 * 2 ^ x9_1.toNat)) = ji22 := shl_small hji22
         have hji22u : (IntKind.u32.wrap (2 ^ min x9_1.toNat 32)) = ji22 := by have h_ := hji22_; rw [Int.one_mul] at h_; exact h_
         have hji22v : x9_1 ≤ 32 → (IntKind.u32.wrap (2 ^ x9_1.toNat)) = ji22 := fun hle_ => by have h_ := hji22z hle_; rw [Int.one_mul] at h_; exact h_
         have H' := Aside0.mk H
         clear H
         have p252 : 0 ≤ (x9_1 : Int) := of_decide_eq_true as_
         have q252 : x9_1 < (l0_1.length : Int) := of_decide_eq_true as_
         obtain ⟨ad252, e252, hx252_0⟩ := Kd.at_int HR0_1.out x9_1 p252 q252
         cases e252
         replace hx252_0 := cl HB hx252_0
         replace p252 := eq_true p252
         replace q252 := eq_true q252
         obtain ⟨z23_0, z23_1⟩ := ca2 BK251
         obtain ⟨f23_0, f23_1⟩ := fa2 BK251
         go_wp2
         go_roundg k1
         case measure => have := HK1.out; omega
         case rel => exact ⟨(Go.bits .or .u32 x3_1 (ji22)), (wrap64 (x9_1 + 1)), (by first | rfl | (simp; done) | (simp only [← hji22] <;> (first | rfl | (rw [shl_one_]; done) | simp)) | (simp [*]; done)), ev, H', ⟨oa HK1⟩, ⟨bk BK251⟩, ⟨bw⟩⟩
        ·have H' := Aside0.mk H
         clear H
         have p252 : 0 ≤ (x9_1 : Int) := of_decide_eq_true as_
         have q252 : x9_1 < (l0_1.length : Int) := of_decide_eq_true as_
         obtain ⟨ad252, e252, hx252_0⟩ := Kd.at_int HR0_1.out x9_1 p252 q252
         cases e252
         replace hx252_0 := cl HB hx252_0
         replace p252 := eq_true p252
         replace q252 := eq_true q252
         obtain ⟨z24_0, z24_1⟩ := ca2 BK251
         obtain ⟨f24_0, f24_1⟩ := fa2 BK251
         go_wp2
         go_roundg k1
         case measure => have := HK1.out; omega
         case rel => exact ⟨(x3_1), (wrap64 (x9_1 + 1)), ev, ev, H', ⟨oa HK1⟩, ⟨bk BK251⟩, ⟨bw⟩⟩
       ·have H' := Aside0.mk H
        clear H
        have p252 : 0 ≤ (x9_1 : Int) := of_decide_eq_true as_
        have q252 : x9_1 < (l0_1.length : Int) := of_decide_eq_true as_
        obtain ⟨ad252, e252, hx252_0⟩ := Kd.at_int HR0_1.out x9_1 p252 q252
        cases e252
        replace hx252_0 := cl HB hx252_0
        replace p252 := eq_true p252
        replace q252 := eq_true q252
        obtain ⟨z25_0, z25_1⟩ := ca2 BK251
        obtain ⟨f25_0, f25_1⟩ := fa2 BK251
        go_wp2
        go_roundg k1
        case measure => have := HK1.out; omega
        case rel => exact ⟨(x3_1), (wrap64 (x9_1 + 1)), ev, ev, H', ⟨oa HK1⟩, ⟨bk BK251⟩, ⟨bw⟩⟩
     ·rw [if_neg c6] at H
      exact absurd H (by simp)
    ·rw [if_neg c5] at H
     exact absurd H (by simp)
   ·obtain rfl := Option.some.inj H
    go_wp2
    go_ret
    exact ⟨rt, bw⟩

end Go.Proofs.YtfhcnnkeokjfpaaDoor.PS1
namespace Go.Proofs.YtfhcnnkeokjfpaaDoor.PS1
open Go.RowKit Go.Proofs.YtfhcnnkeokjfpaaDoorW.PrintWords Go.Proofs.YtfhcnnkeokjfpaaDoorW.PrintLast Go.Proofs.YtfhcnnkeokjfpaaDoorW.PrintMore Go.Proofs.YtfhcnnkeokjfpaaDoor.T
attribute [local go_sem] max2_int min2_int max_two min_two max_three min_three max_four min_four   -- for this text's walks alone
set_option linter.unusedVariables false
set_option linter.unusedSimpArgs false

/-! ### impl_startsBlock: function 114 -/
def impl_startsBlock.f (a0_0 : Int) (a0_1 : Int) (a0_2 : Int) (a0_3 : Int) (a1 : Int) : Option (Bool) := if a0_0 = 1 then ((impl_within.f a1 0 15).bind fun t266 => (if t266 = true then (if 0 ≤ a0_1 then (if (shl .i64 (shr .i64 a1 a0_1) a0_1) = a1 then (if 0 ≤ (shr .i64 a1 a0_1) then (some ((Go.bits .and .u32 (shr .u32 a0_2 (shr .i64 a1 a0_1)) 1) == 1)) else (none)) else (some false)) else (none)) else (some false))) else (some false)
def impl_startsBlock.T1 : Bool × List (List Nat × List Nat) := (true, [([], []), ([0], [0]), ([1], [1]), ([2], [2]), ([3], [3]), ([4, 3, 3], [3, 4]), ([3, 5], [3, 5]), ([6, 5], [6]), ([7], [7]), ([7], [7]), ([9, 7], [7, 9]), ([8, 10, 7], [7, 8, 10]), ([7], [7]), ([12, 7], [7, 12]), ([11, 13, 7], [7, 11, 13]), ([7], [7]), ([14, 15, 7], [7, 14, 15]), ([7, 16], [7, 16]), ([17, 7], [17]), ([18], [18]), ([19, 18], [18, 19]), ([18], [18]), ([18], [18]), ([22, 18], [18, 22]), ([21, 23, 18], [18, 21, 23]), ([20, 24, 18], [18, 20, 24]), ([25, 18], [18, 25]), ([26, 18], [18, 26]), ([18, 27], [18, 27]), ([28, 18, 0, 1, 2, 3, 4, 5, 6, 7, 8, 9, 10, 11, 12, 13, 14, 15, 16, 17, 18, 19, 20, 21, 22, 23, 24, 25, 26, 27, 28], [28])])
def impl_startsBlock.B1 : List Nat := [0, 1, 3, 7, 15, 31, 63, 127, 255, 255, 767, 2047, 255, 4351, 16383, 255, 65535, 131071, 262143, 524287, 1048575, 524287, 524287, 4718591, 15204351, 33554431, 67108863, 134217727, 268435455, 536870911]
theorem impl_startsBlock.tab1 : rtab .any (opsOf Tryd.f114 1) = impl_startsBlock.T1 := kr
theorem impl_startsBlock.bits1 : waitsOk impl_startsBlock.T1.2 impl_startsBlock.B1 = true := kr
set_option maxHeartbeats 2000000 in
set_option maxRecDepth 100000 in
theorem impl_startsBlock.calls (a0_0 : Int) (a0_1 : Int) (a0_2 : Int) (a0_3 : Int) (a1 : Int) (r : Bool) (w : World) (h : impl_startsBlock.f a0_0 a0_1 a0_2 a0_3 a1 = some r) :
  Calls Tryd.prog 114 #[.agg #[.int .i64 a0_0, .int .i64 a0_1, .int .u32 a0_2, .int .i64 a0_3], .int .i64 a1] w fun e w' => e = .returned (.bool r) ∧ Below w.heap.size w w' := by
 have hu91 := Tryd.underlying91
 have HB := Aside0.mk (Below.refl w.heap.size w)
 unfold impl_startsBlock.f at h
 have H := h
 clear h
 replace H := ieq H
 rcases H with ⟨c3b0, c3b1, H⟩ | ⟨c3, c3b0, c3b1, H⟩
 ·replace H := bn H
  obtain ⟨t266, A4, H⟩ := H
  try dsimp only at H
  replace H := ib H
  rcases H with ⟨rfl, H⟩ | ⟨rfl, H⟩
  ·by_cases c6 : 0 ≤ a0_1
   ·rw [if_pos c6] at H
    have c6b0 := eq_true c6
    have c6b1 : decide (0 ≤ a0_1) = true := decide_eq_true c6
    clear c6
    obtain ⟨ji7, hji7⟩ : ∃ j_ : Int, (shr .i64 a1 a0_1) = j_ := ⟨_, rfl⟩
    first | rw [hji7] at H | simp only [hji7] at H
    (try rw [hji7] at A4)
    have hji7_ : (a1 / 2 ^ min a0_1.toNat 64) = ji7 := hji7
    have hji7z : a0_1 ≤ 64 → (a1 / 2 ^ a0_1.toNat) = ji7 := shr_small hji7
    have c8b0 := eq_true (of_decide_eq_true as_ : 0 ≤ a0_1)
    obtain ⟨ji9, hji9⟩ : ∃ j_ : Int, (shl .i64 (ji7) a0_1) = j_ := ⟨_, rfl⟩
    first | rw [hji9] at H | simp only [hji9] at H
    (try rw [hji9] at A4)
    have hji9_ : (IntKind.i64.wrap ((ji7) * 2 ^ min a0_1.toNat 64)) = ji9 := hji9
    have hji9z : a0_1 ≤ 64 → (IntKind.i64.wrap ((ji7) * 2 ^ a0_1.toNat)) = ji9 := shl_small hji9
    have hji9y : (wrap64 ((ji7) * 2 ^ min a0_1.toNat 64)) = ji9 := (i64_w _).symm.trans hji9_
    have hji9x : a0_1 ≤ 64 → (wrap64 ((ji7) * 2 ^ a0_1.toNat)) = ji9 := fun h_ => (i64_w _).symm.trans (hji9z h_)
    replace H := ieq H
    rcases H with ⟨c10b0, c10b1, H⟩ | ⟨c10, c10b0, c10b1, H⟩
    ·have c11b0 := eq_true (of_decide_eq_true as_ : 0 ≤ a0_1)
     by_cases c12 : 0 ≤ (ji7)
     ·rw [if_pos c12] at H
      have c12b0 := eq_true c12
      have c12b1 : decide (0 ≤ (ji7)) = true := decide_eq_true c12
      clear c12
      obtain ⟨ji13, hji13⟩ : ∃ j_ : Int, (shr .u32 a0_2 (ji7)) = j_ := ⟨_, rfl⟩
      first | rw [hji13] at H | simp only [hji13] at H
      (try rw [hji13] at A4)
      have hji13_ : (a0_2 / 2 ^ min (ji7).toNat 32) = ji13 := hji13
      have hji13z : (ji7) ≤ 32 → (a0_2 / 2 ^ (ji7).toNat) = ji13 := shr_small hji13
      obtain rfl := Option.some.inj H
      go_enter Tryd.func114, Tryd.ntmps114
      try go_wp2_with (first | ((with_reducible refine gd 2 ?_); refine bx 2 91 #[.int .i64 a0_0, .int .i64 a0_1, .int .u32 a0_2, .int .i64 a0_3] ?_; clear HB; intro gb265 w14 hg BK265 hb GE265 HB; clear hb hg))
      replace BK265 := bd BK265
      replace HB := hd HB
      refine st 30 (fun w' => CA w' gb265 0 [.int .i64 a0_0, .int .i64 a0_1, .int .u32 a0_2, .int .i64 a0_3]) [] (cx BK265) impl_startsBlock.tab1 impl_startsBlock.bits1 ?_; intro hHeld HT_ HW_
      generalize w14.drew = w15 at BK265 HB hHeld ⊢
      refine pu 0 5 (bl 30 1) ?_
      refine tk 1 6 (bl 30 3) ?_
      refine pu 2 7 (bl 30 7) ?_
      refine pu 3 8 (bl 30 15) ?_
      refine pu 4 9 (bl 30 31) ?_
      refine on_ 5 (some 10) (bl 30 63) (fun K hK => ?_)
      refine gq Tryd.func72 (impl_within.calls _ _ _ _ _ A4.out) ?_
      rintro e w' ⟨rfl, ⟨nd, rfl⟩⟩
      refine ⟨_, rfl, ?_⟩
      refine hK.out _ _ (cx BK265) (fun hHeld => ?_)
      clear hK K
      refine nm ?_
      refine pu 6 11 (bl 30 127) ?_
      refine pu 7 12 (bl 30 255) ?_
      refine pu 8 13 (bl 30 511) ?_
      refine pu 9 14 (bl 30 1023) ?_
      refine pu 12 17 (bl 30 5119) ?_
      refine pu 15 20 (bl 30 37887) ?_
      refine tk 10 15 (bl 30 38911) ?_
      refine pu 11 16 (bl 30 40959) ?_
      refine tk 13 18 (bl 30 49151) ?_
      refine pu 14 19 (bl 30 65535) ?_
      refine pu 16 21 (bl 30 131071) ?_
      refine pu 17 22 (bl 30 262143) ?_
      refine pu 18 23 (bl 30 524287) ?_
      refine pu 19 24 (bl 30 1048575) ?_
      refine pu 21 26 (bl 30 3145727) ?_
      refine pu 22 27 (bl 30 7340031) ?_
      refine tk 20 25 (bl 30 8388607) ?_
      refine tk 23 28 (bl 30 16777215) ?_
      refine pu 24 29 (bl 30 33554431) ?_
      refine pu 25 30 (bl 30 67108863) ?_
      refine pu 26 31 (bl 30 134217727) ?_
      refine pu 27 32 (bl 30 268435455) ?_
      refine pu 28 33 (bl 30 536870911) ?_
      refine pu 29 4 (bl 30 1073741823) ?_
      refine dn ?_ _
      try go_wp2
      go_ret
      exact ⟨by first | exact rt1 | (simp only [← hji7, ← hji9, ← hji13]; exact rt1) | exact rt, bw⟩
     ·rw [if_neg c12] at H
      exact absurd H (by simp)
    ·obtain rfl := Option.some.inj H
     go_enter Tryd.func114, Tryd.ntmps114
     try go_wp2_with (first | ((with_reducible refine gd 2 ?_); refine bx 2 91 #[.int .i64 a0_0, .int .i64 a0_1, .int .u32 a0_2, .int .i64 a0_3] ?_; clear HB; intro gb265 w16 hg BK265 hb GE265 HB; clear hb hg))
     replace BK265 := bd BK265
     replace HB := hd HB
     refine st 30 (fun w' => CA w' gb265 0 [.int .i64 a0_0, .int .i64 a0_1, .int .u32 a0_2, .int .i64 a0_3]) [] (cx BK265) impl_startsBlock.tab1 impl_startsBlock.bits1 ?_; intro hHeld HT_ HW_
     generalize w16.drew = w17 at BK265 HB hHeld ⊢
     refine pu 0 5 (bl 30 1) ?_
     refine tk 1 6 (bl 30 3) ?_
     refine pu 2 7 (bl 30 7) ?_
     refine pu 3 8 (bl 30 15) ?_
     refine pu 4 9 (bl 30 31) ?_
     refine on_ 5 (some 10) (bl 30 63) (fun K hK => ?_)
     refine gq Tryd.func72 (impl_within.calls _ _ _ _ _ A4.out) ?_
     rintro e w' ⟨rfl, ⟨nd, rfl⟩⟩
     refine ⟨_, rfl, ?_⟩
     refine hK.out _ _ (cx BK265) (fun hHeld => ?_)
     clear hK K
     refine nm ?_
     refine pu 6 11 (bl 30 127) ?_
     refine pu 7 12 (bl 30 255) ?_
     refine pu 8 13 (bl 30 511) ?_
     refine pu 9 14 (bl 30 1023) ?_
     refine pu 12 17 (bl 30 5119) ?_
     refine pu 15 20 (bl 30 37887) ?_
     refine tk 10 15 (bl 30 38911) ?_
     refine pu 11 16 (bl 30 40959) ?_
     refine tk 13 18 (bl 30 49151) ?_
     refine pu 14 19 (bl 30 65535) ?_
     refine pu 16 21 (bl 30 131071) ?_
     refine pu 17 22 (bl 30 262143) ?_
     refine pu 18 23 (bl 30 524287) ?_
     refine pf 19 24 (bl 30 1048575) ?_
     refine pf 20 25 (bl 30 2097151) ?_
     refine pf 21 26 (bl 30 4194303) ?_
     refine pf 22 27 (bl 30 8388607) ?_
     refine pf 23 28 (bl 30 16777215) ?_
     refine pf 24 29 (bl 30 33554431) ?_
     refine pf 25 30 (bl 30 67108863) ?_
     refine pf 26 31 (bl 30 134217727) ?_
     refine pf 27 32 (bl 30 268435455) ?_
     refine pu 28 33 (bl 30 536870911) ?_
     refine pu 29 4 (bl 30 1073741823) ?_
     refine dn ?_ _
     try go_wp2
     go_ret
     exact ⟨by first | exact rt1 | (simp only [← hji7, ← hji9]; exact rt1) | exact rt, bw⟩
   ·rw [if_neg c6] at H
    exact absurd H (by simp)
  ·obtain rfl := Option.some.inj H
   go_enter Tryd.func114, Tryd.ntmps114
   try go_wp2_with (first | ((with_reducible refine gd 2 ?_); refine bx 2 91 #[.int .i64 a0_0, .int .i64 a0_1, .int .u32 a0_2, .int .i64 a0_3] ?_; clear HB; intro gb265 w18 hg BK265 hb GE265 HB; clear hb hg))
   replace BK265 := bd BK265
   replace HB := hd HB
   refine st 30 (fun w' => CA w' gb265 0 [.int .i64 a0_0, .int .i64 a0_1, .int .u32 a0_2, .int .i64 a0_3]) [] (cx BK265) impl_startsBlock.tab1 impl_startsBlock.bits1 ?_; intro hHeld HT_ HW_
   generalize w18.drew = w19 at BK265 HB hHeld ⊢
   refine pu 0 5 (bl 30 1) ?_
   refine tk 1 6 (bl 30 3) ?_
   refine pu 2 7 (bl 30 7) ?_
   refine pu 3 8 (bl 30 15) ?_
   refine pu 4 9 (bl 30 31) ?_
   refine on_ 5 (some 10) (bl 30 63) (fun K hK => ?_)
   refine gq Tryd.func72 (impl_within.calls _ _ _ _ _ A4.out) ?_
   rintro e w' ⟨rfl, ⟨nd, rfl⟩⟩
   refine ⟨_, rfl, ?_⟩
   refine hK.out _ _ (cx BK265) (fun hHeld => ?_)
   clear hK K
   refine nm ?_
   refine pu 6 11 (bl 30 127) ?_
   refine pu 7 12 (bl 30 255) ?_
   refine pf 8 13 (bl 30 511) ?_
   refine pf 9 14 (bl 30 1023) ?_
   refine pf 10 15 (bl 30 2047) ?_
   refine pf 11 16 (bl 30 4095) ?_
   refine pf 12 17 (bl 30 8191) ?_
   refine pf 13 18 (bl 30 16383) ?_
   refine pf 14 19 (bl 30 32767) ?_
   refine pf 15 20 (bl 30 65535) ?_
   refine pf 16 21 (bl 30 131071) ?_
   refine pu 17 22 (bl 30 262143) ?_
   refine pu 18 23 (bl 30 524287) ?_
   refine pf 19 24 (bl 30 1048575) ?_
   refine pf 20 25 (bl 30 2097151) ?_
   refine pf 21 26 (bl 30 4194303) ?_
   refine pf 22 27 (bl 30 8388607) ?_
   refine pf 23 28 (bl 30 16777215) ?_
   refine pf 24 29 (bl 30 33554431) ?_
   refine pf 25 30 (bl 30 67108863) ?_
   refine pf 26 31 (bl 30 134217727) ?_
   refine pf 27 32 (bl 30 268435455) ?_
   refine pu 28 33 (bl 30 536870911) ?_
   refine pu 29 4 (bl 30 1073741823) ?_
   refine dn ?_ _
   try go_wp2
   go_ret
   exact ⟨rt, bw⟩
 ·obtain rfl := Option.some.inj H
  go_enter Tryd.func114, Tryd.ntmps114
  try go_wp2_with (first | ((with_reducible refine gd 2 ?_); refine bx 2 91 #[.int .i64 a0_0, .int .i64 a0_1, .int .u32 a0_2, .int .i64 a0_3] ?_; clear HB; intro gb265 w20 hg BK265 hb GE265 HB; clear hb hg))
  replace BK265 := bd BK265
  replace HB := hd HB
  refine st 30 (fun w' => CA w' gb265 0 [.int .i64 a0_0, .int .i64 a0_1, .int .u32 a0_2, .int .i64 a0_3]) [] (cx BK265) impl_startsBlock.tab1 impl_startsBlock.bits1 ?_; intro hHeld HT_ HW_
  generalize w20.drew = w21 at BK265 HB hHeld ⊢
  refine pu 0 5 (bl 30 1) ?_
  refine tk 1 6 (bl 30 3) ?_
  refine pu 2 7 (bl 30 7) ?_
  refine pu 3 8 (bl 30 15) ?_
  refine pf 4 9 (bl 30 31) ?_
  refine pf 5 10 (bl 30 63) ?_
  refine pu 6 11 (bl 30 127) ?_
  refine pu 7 12 (bl 30 255) ?_
  refine pf 8 13 (bl 30 511) ?_
  refine pf 9 14 (bl 30 1023) ?_
  refine pf 10 15 (bl 30 2047) ?_
  refine pf 11 16 (bl 30 4095) ?_
  refine pf 12 17 (bl 30 8191) ?_
  refine pf 13 18 (bl 30 16383) ?_
  refine pf 14 19 (bl 30 32767) ?_
  refine pf 15 20 (bl 30 65535) ?_
  refine pf 16 21 (bl 30 131071) ?_
  refine pu 17 22 (bl 30 262143) ?_
  refine pu 18 23 (bl 30 524287) ?_
  refine pf 19 24 (bl 30 1048575) ?_
  refine pf 20 25 (bl 30 2097151) ?_
  refine pf 21 26 (bl 30 4194303) ?_
  refine pf 22 27 (bl 30 8388607) ?_
  refine pf 23 28 (bl 30 16777215) ?_
  refine pf 24 29 (bl 30 33554431) ?_
  refine pf 25 30 (bl 30 67108863) ?_
  refine pf 26 31 (bl 30 134217727) ?_
  refine pf 27 32 (bl 30 268435455) ?_
  refine pu 28 33 (bl 30 536870911) ?_
  refine pu 29 4 (bl 30 1073741823) ?_
  refine dn ?_ _
  try go_wp2
  go_ret
  exact ⟨rt, bw⟩

end Go.Proofs.YtfhcnnkeokjfpaaDoor.PS1
namespace Go.Proofs.YtfhcnnkeokjfpaaDoor.PS1
open Go.RowKit Go.Proofs.YtfhcnnkeokjfpaaDoorW.PrintWords Go.Proofs.YtfhcnnkeokjfpaaDoorW.PrintLast Go.Proofs.YtfhcnnkeokjfpaaDoorW.PrintMore Go.Proofs.YtfhcnnkeokjfpaaDoor.T
attribute [local go_sem] max2_int min2_int max_two min_two max_three min_three max_four min_four   -- for this text's walks alone
set_option linter.unusedVariables false
set_option linter.unusedSimpArgs false

/-! ### impl_mayGive: function 102 -/
def impl_mayGive.f (k : Nat) (a0 : Int) (a1 : Int) : Option (Bool) := (impl_CtlRead.f k a0).bind fun bt267 => (if bt267.2.2.2.2 = true then ((impl_startsBlock.f bt267.1 bt267.2.1 bt267.2.2.1 bt267.2.2.2.1 a1).bind fun t273 => (if t273 = true then (some true) else (if bt267.1 = 2 then (some (a1 == 0)) else (some false)))) else (some false))
theorem impl_mayGive.mono : ∀ a0 a1 k, LeO (impl_mayGive.f k a0 a1) (impl_mayGive.f (k + 1) a0 a1) := by
 intro a0 a1 k
 unfold impl_mayGive.f
 repeat' first
  | (with_reducible first | exact impl_CtlRead.mono .. | exact LeO.refl _ | exact LeO.none _ | refine LeO.ite ?_ ?_ | refine LeO.bind ?_ (fun _ => ?_))
  | exact LeO.none _ | refine LeO.ite ?_ ?_ | refine LeO.bind ?_ (fun _ => ?_)
set_option maxHeartbeats 8000000 in
set_option maxRecDepth 100000 in
theorem impl_mayGive.calls (k : Nat) (a0 : Int) (a1 : Int) (r : Bool) (w : World) (h : impl_mayGive.f k a0 a1 = some r) :
  Calls Tryd.prog 102 #[.int .u32 a0, .int .i64 a1] w fun e w' => e = .returned (.bool r) ∧ Below w.heap.size w w' := by
 have hu91 := Tryd.underlying91
 have HB := Aside0.mk (Below.refl w.heap.size w)
 unfold impl_mayGive.f at h
 have H := h
 clear h
 replace H := bn H
 obtain ⟨⟨t267, t268, t269, t270, t271⟩, A3, H⟩ := H
 try dsimp only at H
 replace H := ib H
 rcases H with ⟨rfl, H⟩ | ⟨rfl, H⟩
 ·replace H := bn H
  obtain ⟨t273, A5, H⟩ := H
  try dsimp only at H
  replace H := ib H
  rcases H with ⟨rfl, H⟩ | ⟨rfl, H⟩
  ·obtain rfl := Option.some.inj H
   go_enter Tryd.func102, Tryd.ntmps102
   go_wp2_with (first | ((with_reducible refine gf 96 ?_); refine gc Tryd.func96 (some 9) (impl_CtlRead.calls _ _ _ _ _ _ _ _ A3.out) ?_; rintro e w7 ⟨rfl, hb⟩; refine ⟨_, rfl, ?_⟩; replace HB := hs hb; try clear hb) | ((with_reducible refine gd 5 ?_); refine bx 5 91 #[.int .i64 0, .int .i64 0, .int .u32 0, .int .i64 0] ?_; clear HB; intro gb272 w8 hg BK272 hb GE272 HB; clear hb hg; obtain ⟨z9_0, z9_1, z9_2, z9_3⟩ := ca4 BK272; obtain ⟨f9_0, f9_1, f9_2, f9_3⟩ := fa4 BK272) | (go_at_call 114; (with_reducible refine (impl_startsBlock.calls _ _ _ _ _ _ _ A5.out).mono ?_); rintro e w10 ⟨rfl, hb⟩; replace BK272 := bq BK272 #[.int .i64 t267, .int .i64 t268, .int .u32 t269, .int .i64 t270] hb; replace HB := hs hb; try clear hb))
   go_ret
   exact ⟨rt, bw⟩
  ·replace H := ieq H
   rcases H with ⟨c11b0, c11b1, H⟩ | ⟨c11, c11b0, c11b1, H⟩
   ·obtain rfl := Option.some.inj H
    go_enter Tryd.func102, Tryd.ntmps102
    go_wp2_with (first | ((with_reducible refine gf 96 ?_); refine gc Tryd.func96 (some 9) (impl_CtlRead.calls _ _ _ _ _ _ _ _ A3.out) ?_; rintro e w12 ⟨rfl, hb⟩; refine ⟨_, rfl, ?_⟩; replace HB := hs hb; try clear hb) | ((with_reducible refine gd 5 ?_); refine bx 5 91 #[.int .i64 0, .int .i64 0, .int .u32 0, .int .i64 0] ?_; clear HB; intro gb272 w13 hg BK272 hb GE272 HB; clear hb hg; obtain ⟨z14_0, z14_1, z14_2, z14_3⟩ := ca4 BK272; obtain ⟨f14_0, f14_1, f14_2, f14_3⟩ := fa4 BK272) | (go_at_call 114; (with_reducible refine (impl_startsBlock.calls _ _ _ _ _ _ _ A5.out).mono ?_); rintro e w15 ⟨rfl, hb⟩; replace BK272 := bq BK272 #[.int .i64 t267, .int .i64 t268, .int .u32 t269, .int .i64 t270] hb; replace HB := hs hb; try clear hb; obtain ⟨z16_0, z16_1, z16_2, z16_3⟩ := ca4 BK272; obtain ⟨f16_0, f16_1, f16_2, f16_3⟩ := fa4 BK272))
    go_ret
    exact ⟨rt, bw⟩
   ·obtain rfl := Option.some.inj H
    go_enter Tryd.func102, Tryd.ntmps102
    go_wp2_with (first | ((with_reducible refine gf 96 ?_); refine gc Tryd.func96 (some 9) (impl_CtlRead.calls _ _ _ _ _ _ _ _ A3.out) ?_; rintro e w17 ⟨rfl, hb⟩; refine ⟨_, rfl, ?_⟩; replace HB := hs hb; try clear hb) | ((with_reducible refine gd 5 ?_); refine bx 5 91 #[.int .i64 0, .int .i64 0, .int .u32 0, .int .i64 0] ?_; clear HB; intro gb272 w18 hg BK272 hb GE272 HB; clear hb hg; obtain ⟨z19_0, z19_1, z19_2, z19_3⟩ := ca4 BK272; obtain ⟨f19_0, f19_1, f19_2, f19_3⟩ := fa4 BK272) | (go_at_call 114; (with_reducible refine (impl_startsBlock.calls _ _ _ _ _ _ _ A5.out).mono ?_); rintro e w20 ⟨rfl, hb⟩; replace BK272 := bq BK272 #[.int .i64 t267, .int .i64 t268, .int .u32 t269, .int .i64 t270] hb; replace HB := hs hb; try clear hb; obtain ⟨z21_0, z21_1, z21_2, z21_3⟩ := ca4 BK272; obtain ⟨f21_0, f21_1, f21_2, f21_3⟩ := fa4 BK272))
    go_ret
    exact ⟨rt, bw⟩
 ·obtain rfl := Option.some.inj H
  go_enter Tryd.func102, Tryd.ntmps102
  go_wp2_with (first | ((with_reducible refine gf 96 ?_); refine gc Tryd.func96 (some 9) (impl_CtlRead.calls _ _ _ _ _ _ _ _ A3.out) ?_; rintro e w22 ⟨rfl, hb⟩; refine ⟨_, rfl, ?_⟩; replace HB := hs hb; try clear hb) | ((with_reducible refine gd 5 ?_); refine bx 5 91 #[.int .i64 0, .int .i64 0, .int .u32 0, .int .i64 0] ?_; clear HB; intro gb272 w23 hg BK272 hb GE272 HB; clear hb hg; obtain ⟨z24_0, z24_1, z24_2, z24_3⟩ := ca4 BK272; obtain ⟨f24_0, f24_1, f24_2, f24_3⟩ := fa4 BK272))
  go_ret
  exact ⟨rt, bw⟩

/-! ### bits_Len64: function 117 -/
def bits_Len64.j0 : Nat → Int → Int → Option (Int)
 | 0, _, _ => none
 | k + 1, x0, x2 => if x0 ≥ 65536 then (if (x0 / 65536) ≥ 256 then (if 0 ≤ (((x0 / 65536) / 256) % 256) then (if (((x0 / 65536) / 256) % 256) < 256 then (some (wrap64 ((wrap64 ((wrap64 (x2 + 16)) + 8)) + (wrap64 (bt (⟨#[0, 1, 2, 2, 3, 3, 3, 3, 4, 4, 4, 4, 4, 4, 4, 4, 5, 5, 5, 5, 5, 5, 5, 5, 5, 5, 5, 5, 5, 5, 5, 5, 6, 6, 6, 6, 6, 6, 6, 6, 6, 6, 6, 6, 6, 6, 6, 6, 6, 6, 6, 6, 6, 6, 6, 6, 6, 6, 6, 6, 6, 6, 6, 6, 7, 7, 7, 7, 7, 7, 7, 7, 7, 7, 7, 7, 7, 7, 7, 7, 7, 7, 7, 7, 7, 7, 7, 7, 7, 7, 7, 7, 7, 7, 7, 7, 7, 7, 7, 7, 7, 7, 7, 7, 7, 7, 7, 7, 7, 7, 7, 7, 7, 7, 7, 7, 7, 7, 7, 7, 7, 7, 7, 7, 7, 7, 7, 7, 8, 8, 8, 8, 8, 8, 8, 8, 8, 8, 8, 8, 8, 8, 8, 8, 8, 8, 8, 8, 8, 8, 8, 8, 8, 8, 8, 8, 8, 8, 8, 8, 8, 8, 8, 8, 8, 8, 8, 8, 8, 8, 8, 8, 8, 8, 8, 8, 8, 8, 8, 8, 8, 8, 8, 8, 8, 8, 8, 8, 8, 8, 8, 8, 8, 8, 8, 8, 8, 8, 8, 8, 8, 8, 8, 8, 8, 8, 8, 8, 8, 8, 8, 8, 8, 8, 8, 8, 8, 8, 8, 8, 8, 8, 8, 8, 8, 8, 8, 8, 8, 8, 8, 8, 8, 8, 8, 8, 8, 8, 8, 8, 8, 8, 8, 8, 8, 8, 8, 8, 8, 8, 8, 8, 8, 8, 8, 8]⟩ : ByteArray) (((x0 / 65536) / 256) % 256)))))) else (none)) else (none)) else (if 0 ≤ ((x0 / 65536) % 256) then (if ((x0 / 65536) % 256) < 256 then (some (wrap64 ((wrap64 (x2 + 16)) + (wrap64 (bt (⟨#[0, 1, 2, 2, 3, 3, 3, 3, 4, 4, 4, 4, 4, 4, 4, 4, 5, 5, 5, 5, 5, 5, 5, 5, 5, 5, 5, 5, 5, 5, 5, 5, 6, 6, 6, 6, 6, 6, 6, 6, 6, 6, 6, 6, 6, 6, 6, 6, 6, 6, 6, 6, 6, 6, 6, 6, 6, 6, 6, 6, 6, 6, 6, 6, 7, 7, 7, 7, 7, 7, 7, 7, 7, 7, 7, 7, 7, 7, 7, 7, 7, 7, 7, 7, 7, 7, 7, 7, 7, 7, 7, 7, 7, 7, 7, 7, 7, 7, 7, 7, 7, 7, 7, 7, 7, 7, 7, 7, 7, 7, 7, 7, 7, 7, 7, 7, 7, 7, 7, 7, 7, 7, 7, 7, 7, 7, 7, 7, 8, 8, 8, 8, 8, 8, 8, 8, 8, 8, 8, 8, 8, 8, 8, 8, 8, 8, 8, 8, 8, 8, 8, 8, 8, 8, 8, 8, 8, 8, 8, 8, 8, 8, 8, 8, 8, 8, 8, 8, 8, 8, 8, 8, 8, 8, 8, 8, 8, 8, 8, 8, 8, 8, 8, 8, 8, 8, 8, 8, 8, 8, 8, 8, 8, 8, 8, 8, 8, 8, 8, 8, 8, 8, 8, 8, 8, 8, 8, 8, 8, 8, 8, 8, 8, 8, 8, 8, 8, 8, 8, 8, 8, 8, 8, 8, 8, 8, 8, 8, 8, 8, 8, 8, 8, 8, 8, 8, 8, 8, 8, 8, 8, 8, 8, 8, 8, 8, 8, 8, 8, 8, 8, 8, 8, 8, 8, 8]⟩ : ByteArray) ((x0 / 65536) % 256)))))) else (none)) else (none))) else (if x0 ≥ 256 then (if 0 ≤ ((x0 / 256) % 256) then (if ((x0 / 256) % 256) < 256 then (some (wrap64 ((wrap64 (x2 + 8)) + (wrap64 (bt (⟨#[0, 1, 2, 2, 3, 3, 3, 3, 4, 4, 4, 4, 4, 4, 4, 4, 5, 5, 5, 5, 5, 5, 5, 5, 5, 5, 5, 5, 5, 5, 5, 5, 6, 6, 6, 6, 6, 6, 6, 6, 6, 6, 6, 6, 6, 6, 6, 6, 6, 6, 6, 6, 6, 6, 6, 6, 6, 6, 6, 6, 6, 6, 6, 6, 7, 7, 7, 7, 7, 7, 7, 7, 7, 7, 7, 7, 7, 7, 7, 7, 7, 7, 7, 7, 7, 7, 7, 7, 7, 7, 7, 7, 7, 7, 7, 7, 7, 7, 7, 7, 7, 7, 7, 7, 7, 7, 7, 7, 7, 7, 7, 7, 7, 7, 7, 7, 7, 7, 7, 7, 7, 7, 7, 7, 7, 7, 7, 7, 8, 8, 8, 8, 8, 8, 8, 8, 8, 8, 8, 8, 8, 8, 8, 8, 8, 8, 8, 8, 8, 8, 8, 8, 8, 8, 8, 8, 8, 8, 8, 8, 8, 8, 8, 8, 8, 8, 8, 8, 8, 8, 8, 8, 8, 8, 8, 8, 8, 8, 8, 8, 8, 8, 8, 8, 8, 8, 8, 8, 8, 8, 8, 8, 8, 8, 8, 8, 8, 8, 8, 8, 8, 8, 8, 8, 8, 8, 8, 8, 8, 8, 8, 8, 8, 8, 8, 8, 8, 8, 8, 8, 8, 8, 8, 8, 8, 8, 8, 8, 8, 8, 8, 8, 8, 8, 8, 8, 8, 8, 8, 8, 8, 8, 8, 8, 8, 8, 8, 8, 8, 8, 8, 8, 8, 8, 8, 8]⟩ : ByteArray) ((x0 / 256) % 256)))))) else (none)) else (none)) else (if 0 ≤ ((x0) % 256) then (if ((x0) % 256) < 256 then (some (wrap64 (x2 + (wrap64 (bt (⟨#[0, 1, 2, 2, 3, 3, 3, 3, 4, 4, 4, 4, 4, 4, 4, 4, 5, 5, 5, 5, 5, 5, 5, 5, 5, 5, 5, 5, 5, 5, 5, 5, 6, 6, 6, 6, 6, 6, 6, 6, 6, 6, 6, 6, 6, 6, 6, 6, 6, 6, 6, 6, 6, 6, 6, 6, 6, 6, 6, 6, 6, 6, 6, 6, 7, 7, 7, 7, 7, 7, 7, 7, 7, 7, 7, 7, 7, 7, 7, 7, 7, 7, 7, 7, 7, 7, 7, 7, 7, 7, 7, 7, 7, 7, 7, 7, 7, 7, 7, 7, 7, 7, 7, 7, 7, 7, 7, 7, 7, 7, 7, 7, 7, 7, 7, 7, 7, 7, 7, 7, 7, 7, 7, 7, 7, 7, 7, 7, 8, 8, 8, 8, 8, 8, 8, 8, 8, 8, 8, 8, 8, 8, 8, 8, 8, 8, 8, 8, 8, 8, 8, 8, 8, 8, 8, 8, 8, 8, 8, 8, 8, 8, 8, 8, 8, 8, 8, 8, 8, 8, 8, 8, 8, 8, 8, 8, 8, 8, 8, 8, 8, 8, 8, 8, 8, 8, 8, 8, 8, 8, 8, 8, 8, 8, 8, 8, 8, 8, 8, 8, 8, 8, 8, 8, 8, 8, 8, 8, 8, 8, 8, 8, 8, 8, 8, 8, 8, 8, 8, 8, 8, 8, 8, 8, 8, 8, 8, 8, 8, 8, 8, 8, 8, 8, 8, 8, 8, 8, 8, 8, 8, 8, 8, 8, 8, 8, 8, 8, 8, 8, 8, 8, 8, 8, 8, 8]⟩ : ByteArray) ((x0) % 256)))))) else (none)) else (none)))
def bits_Len64.f (k : Nat) (a0 : Int) : Option (Int) := if a0 ≥ 4294967296 then (bits_Len64.j0 k (a0 / 4294967296) 32) else (bits_Len64.j0 k a0 0)
theorem bits_Len64.mono_l : ∀ k, (∀ y0 y1, LeO (bits_Len64.j0 k y0 y1) (bits_Len64.j0 (k + 1) y0 y1))
 | 0 => fun _ _ r h => by simp [bits_Len64.j0] at h
 | k + 1 => by
  have ih0 := bits_Len64.mono_l k
  ·intro y0 y1
   unfold bits_Len64.j0
   repeat' first
    | (with_reducible first | exact ih0 .. | exact LeO.refl _ | exact LeO.none _ | refine LeO.ite ?_ ?_ | refine LeO.bind ?_ (fun _ => ?_))
    | exact LeO.none _ | refine LeO.ite ?_ ?_ | refine LeO.bind ?_ (fun _ => ?_)
theorem bits_Len64.mono : ∀ a0 k, LeO (bits_Len64.f k a0) (bits_Len64.f (k + 1) a0) := by
 intro a0 k
 have ih0 := bits_Len64.mono_l k
 unfold bits_Len64.f
 repeat' first
  | (with_reducible first | exact ih0 .. | exact LeO.refl _ | exact LeO.none _ | refine LeO.ite ?_ ?_ | refine LeO.bind ?_ (fun _ => ?_))
  | exact LeO.none _ | refine LeO.ite ?_ ?_ | refine LeO.bind ?_ (fun _ => ?_)
set_option maxHeartbeats 8000000 in
set_option maxRecDepth 100000 in
theorem bits_Len64.calls (k : Nat) (a0 : Int) (r : Int) (w : World) (h : bits_Len64.f k a0 = some r) :
  Calls Tryd.prog 117 #[.int .u64 a0] w fun e w' => e = .returned (.int .i64 r) ∧ Drawn0 w w' := by
 unfold bits_Len64.f at h
 have H := h
 clear h
 have HC2 := Aside0.mk H
 clear H
 go_enter Tryd.func117, Tryd.ntmps117
 go_upto_if 4 with (fail)
 go_cut [0, 2] (fun v0 v2 wc => ∃ (kq : Nat) (x0_1 : Int) (x2_1 : Int), v0 = .int .u64 x0_1 ∧ v2 = .int .i64 x2_1 ∧ Aside0 (bits_Len64.j0 kq x0_1 x2_1 = some r) ∧ Aside0 (kq ≤ k) ∧ Drawn0 w wc)
 case first => as_aux_lemma =>
  have H := HC2.out
  clear HC2
  replace H := ige H
  rcases H with ⟨c3b0, H⟩ | ⟨c3b0, H⟩
  ·(first | rw [c3b0] | (simp only [i64_w, i32_w]; rw [c3b0]) | (simp only [c3b2, Bool.not_true, Bool.not_false]) | (simp only [c3b1, Bool.not_true, Bool.not_false]) | skip)
   have H' := Aside0.mk H
   clear H
   go_wp2
   go_meet
   case rel => exact ⟨_, (a0 / 4294967296), (32), ev, ev, H', ⟨om⟩, dr⟩
  ·(first | rw [c3b0] | (simp only [i64_w, i32_w]; rw [c3b0]) | (simp only [c3b2, Bool.not_true, Bool.not_false]) | (simp only [c3b1, Bool.not_true, Bool.not_false]) | skip)
   have H' := Aside0.mk H
   clear H
   go_wp2
   go_meet
   case rel => exact ⟨_, (a0), (0), ev, ev, H', ⟨om⟩, dr⟩
 case rest => as_aux_lemma =>
  clear HC2
  obtain ⟨kq, x0_1, x2_1, rfl, rfl, HA, HJ1, ⟨mc1, rfl⟩⟩ := hcut
  cases kq with
  | zero => exact absurd HA.out (by simp [bits_Len64.j0])
  | succ kj1 =>
   have H := HA.out
   clear HA
   simp only [bits_Len64.j0] at H
   replace H := ige H
   rcases H with ⟨c4b0, H⟩ | ⟨c4b0, H⟩
   ·replace H := ige H
    rcases H with ⟨c5b0, H⟩ | ⟨c5b0, H⟩
    ·obtain ⟨ji6, hji6⟩ : ∃ j_ : Int, (((x0_1 / 65536) / 256) % 256) = j_ := ⟨_, rfl⟩
     first | rw [hji6] at H | simp only [hji6] at H
     by_cases c7 : 0 ≤ (ji6)
     ·rw [if_pos c7] at H
      have c7b0 : decide (0 ≤ (ji6)) = true := decide_eq_true c7
      clear c7
      by_cases c8 : (ji6) < 256
      ·rw [if_pos c8] at H
       have c8b0 : decide ((ji6) < 256) = true := decide_eq_true c8
       clear c8
       obtain rfl := Option.some.inj H
       have p9 : 0 ≤ ((ji6) : Int) := of_decide_eq_true as_
       have q9 : (ji6) < (256 : Int) := of_decide_eq_true as_
       have hx9 := bt_at (⟨#[0, 1, 2, 2, 3, 3, 3, 3, 4, 4, 4, 4, 4, 4, 4, 4, 5, 5, 5, 5, 5, 5, 5, 5, 5, 5, 5, 5, 5, 5, 5, 5, 6, 6, 6, 6, 6, 6, 6, 6, 6, 6, 6, 6, 6, 6, 6, 6, 6, 6, 6, 6, 6, 6, 6, 6, 6, 6, 6, 6, 6, 6, 6, 6, 7, 7, 7, 7, 7, 7, 7, 7, 7, 7, 7, 7, 7, 7, 7, 7, 7, 7, 7, 7, 7, 7, 7, 7, 7, 7, 7, 7, 7, 7, 7, 7, 7, 7, 7, 7, 7, 7, 7, 7, 7, 7, 7, 7, 7, 7, 7, 7, 7, 7, 7, 7, 7, 7, 7, 7, 7, 7, 7, 7, 7, 7, 7, 7, 8, 8, 8, 8, 8, 8, 8, 8, 8, 8, 8, 8, 8, 8, 8, 8, 8, 8, 8, 8, 8, 8, 8, 8, 8, 8, 8, 8, 8, 8, 8, 8, 8, 8, 8, 8, 8, 8, 8, 8, 8, 8, 8, 8, 8, 8, 8, 8, 8, 8, 8, 8, 8, 8, 8, 8, 8, 8, 8, 8, 8, 8, 8, 8, 8, 8, 8, 8, 8, 8, 8, 8, 8, 8, 8, 8, 8, 8, 8, 8, 8, 8, 8, 8, 8, 8, 8, 8, 8, 8, 8, 8, 8, 8, 8, 8, 8, 8, 8, 8, 8, 8, 8, 8, 8, 8, 8, 8, 8, 8, 8, 8, 8, 8, 8, 8, 8, 8, 8, 8, 8, 8, 8, 8, 8, 8, 8, 8]⟩ : ByteArray) (ji6)
       replace p9 := eq_true p9
       replace q9 := eq_true q9
       go_wp2
       go_ret
       exact ⟨by first | rfl | (simp; done) | (simp only [← hji6] <;> (first | rfl | simp)) | (simp [*]; done), dr⟩
      ·rw [if_neg c8] at H
       exact absurd H (by simp)
     ·rw [if_neg c7] at H
      exact absurd H (by simp)
    ·obtain ⟨ji10, hji10⟩ : ∃ j_ : Int, ((x0_1 / 65536) % 256) = j_ := ⟨_, rfl⟩
     first | rw [hji10] at H | simp only [hji10] at H
     by_cases c11 : 0 ≤ (ji10)
     ·rw [if_pos c11] at H
      have c11b0 : decide (0 ≤ (ji10)) = true := decide_eq_true c11
      clear c11
      by_cases c12 : (ji10) < 256
      ·rw [if_pos c12] at H
       have c12b0 : decide ((ji10) < 256) = true := decide_eq_true c12
       clear c12
       obtain rfl := Option.some.inj H
       have p13 : 0 ≤ ((ji10) : Int) := of_decide_eq_true as_
       have q13 : (ji10) < (256 : Int) := of_decide_eq_true as_
       have hx13 := bt_at (⟨#[0, 1, 2, 2, 3, 3, 3, 3, 4, 4, 4, 4, 4, 4, 4, 4, 5, 5, 5, 5, 5, 5, 5, 5, 5, 5, 5, 5, 5, 5, 5, 5, 6, 6, 6, 6, 6, 6, 6, 6, 6, 6, 6, 6, 6, 6, 6, 6, 6, 6, 6, 6, 6, 6, 6, 6, 6, 6, 6, 6, 6, 6, 6, 6, 7, 7, 7, 7, 7, 7, 7, 7, 7, 7, 7, 7, 7, 7, 7, 7, 7, 7, 7, 7, 7, 7, 7, 7, 7, 7, 7, 7, 7, 7, 7, 7, 7, 7, 7, 7, 7, 7, 7, 7, 7, 7, 7, 7, 7, 7, 7, 7, 7, 7, 7, 7, 7, 7, 7, 7, 7, 7, 7, 7, 7, 7, 7, 7, 8, 8, 8, 8, 8, 8, 8, 8, 8, 8, 8, 8, 8, 8, 8, 8, 8, 8, 8, 8, 8, 8, 8, 8, 8, 8, 8, 8, 8, 8, 8, 8, 8, 8, 8, 8, 8, 8, 8, 8, 8, 8, 8, 8, 8, 8, 8, 8, 8, 8, 8, 8, 8, 8, 8, 8, 8, 8, 8, 8, 8, 8, 8, 8, 8, 8, 8, 8, 8, 8, 8, 8, 8, 8, 8, 8, 8, 8, 8, 8, 8, 8, 8, 8, 8, 8, 8, 8, 8, 8, 8, 8, 8, 8, 8, 8, 8, 8, 8, 8, 8, 8, 8, 8, 8, 8, 8, 8, 8, 8, 8, 8, 8, 8, 8, 8, 8, 8, 8, 8, 8, 8, 8, 8, 8, 8, 8, 8]⟩ : ByteArray) (ji10)
       replace p13 := eq_true p13
       replace q13 := eq_true q13
       go_wp2
       go_ret
       exact ⟨by first | rfl | (simp; done) | (simp only [← hji10] <;> (first | rfl | simp)) | (simp [*]; done), dr⟩
      ·rw [if_neg c12] at H
       exact absurd H (by simp)
     ·rw [if_neg c11] at H
      exact absurd H (by simp)
   ·replace H := ige H
    rcases H with ⟨c14b0, H⟩ | ⟨c14b0, H⟩
    ·obtain ⟨ji15, hji15⟩ : ∃ j_ : Int, ((x0_1 / 256) % 256) = j_ := ⟨_, rfl⟩
     first | rw [hji15] at H | simp only [hji15] at H
     by_cases c16 : 0 ≤ (ji15)
     ·rw [if_pos c16] at H
      have c16b0 : decide (0 ≤ (ji15)) = true := decide_eq_true c16
      clear c16
      by_cases c17 : (ji15) < 256
      ·rw [if_pos c17] at H
       have c17b0 : decide ((ji15) < 256) = true := decide_eq_true c17
       clear c17
       obtain rfl := Option.some.inj H
       have p18 : 0 ≤ ((ji15) : Int) := of_decide_eq_true as_
       have q18 : (ji15) < (256 : Int) := of_decide_eq_true as_
       have hx18 := bt_at (⟨#[0, 1, 2, 2, 3, 3, 3, 3, 4, 4, 4, 4, 4, 4, 4, 4, 5, 5, 5, 5, 5, 5, 5, 5, 5, 5, 5, 5, 5, 5, 5, 5, 6, 6, 6, 6, 6, 6, 6, 6, 6, 6, 6, 6, 6, 6, 6, 6, 6, 6, 6, 6, 6, 6, 6, 6, 6, 6, 6, 6, 6, 6, 6, 6, 7, 7, 7, 7, 7, 7, 7, 7, 7, 7, 7, 7, 7, 7, 7, 7, 7, 7, 7, 7, 7, 7, 7, 7, 7, 7, 7, 7, 7, 7, 7, 7, 7, 7, 7, 7, 7, 7, 7, 7, 7, 7, 7, 7, 7, 7, 7, 7, 7, 7, 7, 7, 7, 7, 7, 7, 7, 7, 7, 7, 7, 7, 7, 7, 8, 8, 8, 8, 8, 8, 8, 8, 8, 8, 8, 8, 8, 8, 8, 8, 8, 8, 8, 8, 8, 8, 8, 8, 8, 8, 8, 8, 8, 8, 8, 8, 8, 8, 8, 8, 8, 8, 8, 8, 8, 8, 8, 8, 8, 8, 8, 8, 8, 8, 8, 8, 8, 8, 8, 8, 8, 8, 8, 8, 8, 8, 8, 8, 8, 8, 8, 8, 8, 8, 8, 8, 8, 8, 8, 8, 8, 8, 8, 8, 8, 8, 8, 8, 8, 8, 8, 8, 8, 8, 8, 8, 8, 8, 8, 8, 8, 8, 8, 8, 8, 8, 8, 8, 8, 8, 8, 8, 8, 8, 8, 8, 8, 8, 8, 8, 8, 8, 8, 8, 8, 8, 8, 8, 8, 8, 8, 8]⟩ : ByteArray) (ji15)
       replace p18 := eq_true p18
       replace q18 := eq_true q18
       go_wp2
       go_ret
       exact ⟨by first | rfl | (simp; done) | (simp only [← hji15] <;> (first | rfl | simp)) | (simp [*]; done), dr⟩
      ·rw [if_neg c17] at H
       exact absurd H (by simp)
     ·rw [if_neg c16] at H
      exact absurd H (by simp)
    ·obtain ⟨ji19, hji19⟩ : ∃ j_ : Int, ((x0_1) % 256) = j_ := ⟨_, rfl⟩
     first | rw [hji19] at H | simp only [hji19] at H
     by_cases c20 : 0 ≤ (ji19)
     ·rw [if_pos c20] at H
      have c20b0 : decide (0 ≤ (ji19)) = true := decide_eq_true c20
      clear c20
      by_cases c21 : (ji19) < 256
      ·rw [if_pos c21] at H
       have c21b0 : decide ((ji19) < 256) = true := decide_eq_true c21
       clear c21
       obtain rfl := Option.some.inj H
       have p22 : 0 ≤ ((ji19) : Int) := of_decide_eq_true as_
       have q22 : (ji19) < (256 : Int) := of_decide_eq_true as_
       have hx22 := bt_at (⟨#[0, 1, 2, 2, 3, 3, 3, 3, 4, 4, 4, 4, 4, 4, 4, 4, 5, 5, 5, 5, 5, 5, 5, 5, 5, 5, 5, 5, 5, 5, 5, 5, 6, 6, 6, 6, 6, 6, 6, 6, 6, 6, 6, 6, 6, 6, 6, 6, 6, 6, 6, 6, 6, 6, 6, 6, 6, 6, 6, 6, 6, 6, 6, 6, 7, 7, 7, 7, 7, 7, 7, 7, 7, 7, 7, 7, 7, 7, 7, 7, 7, 7, 7, 7, 7, 7, 7, 7, 7, 7, 7, 7, 7, 7, 7, 7, 7, 7, 7, 7, 7, 7, 7, 7, 7, 7, 7, 7, 7, 7, 7, 7, 7, 7, 7, 7, 7, 7, 7, 7, 7, 7, 7, 7, 7, 7, 7, 7, 8, 8, 8, 8, 8, 8, 8, 8, 8, 8, 8, 8, 8, 8, 8, 8, 8, 8, 8, 8, 8, 8, 8, 8, 8, 8, 8, 8, 8, 8, 8, 8, 8, 8, 8, 8, 8, 8, 8, 8, 8, 8, 8, 8, 8, 8, 8, 8, 8, 8, 8, 8, 8, 8, 8, 8, 8, 8, 8, 8, 8, 8, 8, 8, 8, 8, 8, 8, 8, 8, 8, 8, 8, 8, 8, 8, 8, 8, 8, 8, 8, 8, 8, 8, 8, 8, 8, 8, 8, 8, 8, 8, 8, 8, 8, 8, 8, 8, 8, 8, 8, 8, 8, 8, 8, 8, 8, 8, 8, 8, 8, 8, 8, 8, 8, 8, 8, 8, 8, 8, 8, 8, 8, 8, 8, 8, 8, 8]⟩ : ByteArray) (ji19)
       replace p22 := eq_true p22
       replace q22 := eq_true q22
       go_wp2
       go_ret
       exact ⟨by first | rfl | (simp; done) | (simp only [← hji19] <;> (first | rfl | simp)) | (simp [*]; done), dr⟩
      ·rw [if_neg c21] at H
       exact absurd H (by simp)
     ·rw [if_neg c20] at H
      exact absurd H (by simp)

/-! ### bits_Len: function 105 -/
def bits_Len.f (k : Nat) (a0 : Int) : Option (Int) := (bits_Len64.f k a0).bind fun t281 => (some t281)
theorem bits_Len.mono : ∀ a0 k, LeO (bits_Len.f k a0) (bits_Len.f (k + 1) a0) := by
 intro a0 k
 unfold bits_Len.f
 repeat' first
  | (with_reducible first | exact bits_Len64.mono .. | exact LeO.refl _ | exact LeO.none _ | refine LeO.ite ?_ ?_ | refine LeO.bind ?_ (fun _ => ?_))
  | exact LeO.none _ | refine LeO.ite ?_ ?_ | refine LeO.bind ?_ (fun _ => ?_)
set_option maxHeartbeats 8000000 in
set_option maxRecDepth 100000 in
theorem bits_Len.calls (k : Nat) (a0 : Int) (r : Int) (w : World) (h : bits_Len.f k a0 = some r) :
  Calls Tryd.prog 105 #[.int .u64 a0] w fun e w' => e = .returned (.int .i64 r) ∧ Drawn0 w w' := by
 unfold bits_Len.f at h
 have H := h
 clear h
 replace H := bn H
 obtain ⟨t281, A2, H⟩ := H
 try dsimp only at H
 obtain rfl := Option.some.inj H
 go_enter Tryd.func105, Tryd.ntmps105
 go_wp2_with (first | ((with_reducible refine gf 117 ?_); refine gc Tryd.func117 (some 7) (bits_Len64.calls _ _ _ _ A2.out) ?_; rintro e w' ⟨rfl, ⟨nd, rfl⟩⟩; refine ⟨_, rfl, ?_⟩))
 go_ret
 exact ⟨ev, dr⟩

/-! ### impl_ClassOf: function 81 -/
def impl_ClassOf.f (k : Nat) (a0 : Int) : Option (Int) := (impl_within.f a0 1 16).bind fun t282 => (if t282 = true then ((bits_Len.f k (IntKind.u64.wrap (wrap64 (a0 - 1)))).bind fun t283 => (some t283)) else (some (-1)))
theorem impl_ClassOf.mono : ∀ a0 k, LeO (impl_ClassOf.f k a0) (impl_ClassOf.f (k + 1) a0) := by
 intro a0 k
 unfold impl_ClassOf.f
 repeat' first
  | (with_reducible first | exact bits_Len.mono .. | exact LeO.refl _ | exact LeO.none _ | refine LeO.ite ?_ ?_ | refine LeO.bind ?_ (fun _ => ?_))
  | exact LeO.none _ | refine LeO.ite ?_ ?_ | refine LeO.bind ?_ (fun _ => ?_)
set_option maxHeartbeats 8000000 in
set_option maxRecDepth 100000 in
theorem impl_ClassOf.calls (k : Nat) (a0 : Int) (r : Int) (w : World) (h : impl_ClassOf.f k a0 = some r) :
  Calls Tryd.prog 81 #[.int .i64 a0] w fun e w' => e = .returned (.int .i64 r) ∧ Drawn0 w w' := by
 unfold impl_ClassOf.f at h
 have H := h
 clear h
 replace H := bn H
 obtain ⟨t282, A2, H⟩ := H
 try dsimp only at H
 have HU3 := Aside0.mk H
 clear H
 go_enter Tryd.func81, Tryd.ntmps81
 go_upto_if 5 with (first | ((with_reducible refine gf 72 ?_); refine gc Tryd.func72 (some 4) (impl_within.calls _ _ _ _ _ A2.out) ?_; rintro e w' ⟨rfl, ⟨nd, rfl⟩⟩; refine ⟨_, rfl, ?_⟩))
 (try refine ap ?_)
 have H := HU3.out
 clear HU3
 replace H := ib H
 rcases H with ⟨rfl, H⟩ | ⟨rfl, H⟩
 ·(try simp only [Bool.not_true, Bool.not_false])
  replace H := bn H
  obtain ⟨t283, A5, H⟩ := H
  try dsimp only at H
  obtain rfl := Option.some.inj H
  go_wp2_with (first | ((with_reducible refine gf 105 ?_); refine gc Tryd.func105 (some 9) (bits_Len.calls _ _ _ _ A5.out) ?_; rintro e w' ⟨rfl, ⟨nd, rfl⟩⟩; refine ⟨_, rfl, ?_⟩))
  go_ret
  exact ⟨ev, dr⟩
 ·(try simp only [Bool.not_true, Bool.not_false])
  obtain rfl := Option.some.inj H
  go_wp2
  go_ret
  exact ⟨ev, dr⟩

/-! ### bits_OnesCount32: function 125 -/
def bits_OnesCount32.f (a0 : Int) : Option (Int) := if 0 ≤ (a0 / 16777216) then (if (a0 / 16777216) < 256 then (if 0 ≤ (Go.bits .and .u32 (a0 / 65536) 255) then (if (Go.bits .and .u32 (a0 / 65536) 255) < 256 then (if 0 ≤ (Go.bits .and .u32 (a0 / 256) 255) then (if (Go.bits .and .u32 (a0 / 256) 255) < 256 then (if 0 ≤ (Go.bits .and .u32 a0 255) then (if (Go.bits .and .u32 a0 255) < 256 then (some (((((((bt (⟨#[0, 1, 1, 2, 1, 2, 2, 3, 1, 2, 2, 3, 2, 3, 3, 4, 1, 2, 2, 3, 2, 3, 3, 4, 2, 3, 3, 4, 3, 4, 4, 5, 1, 2, 2, 3, 2, 3, 3, 4, 2, 3, 3, 4, 3, 4, 4, 5, 2, 3, 3, 4, 3, 4, 4, 5, 3, 4, 4, 5, 4, 5, 5, 6, 1, 2, 2, 3, 2, 3, 3, 4, 2, 3, 3, 4, 3, 4, 4, 5, 2, 3, 3, 4, 3, 4, 4, 5, 3, 4, 4, 5, 4, 5, 5, 6, 2, 3, 3, 4, 3, 4, 4, 5, 3, 4, 4, 5, 4, 5, 5, 6, 3, 4, 4, 5, 4, 5, 5, 6, 4, 5, 5, 6, 5, 6, 6, 7, 1, 2, 2, 3, 2, 3, 3, 4, 2, 3, 3, 4, 3, 4, 4, 5, 2, 3, 3, 4, 3, 4, 4, 5, 3, 4, 4, 5, 4, 5, 5, 6, 2, 3, 3, 4, 3, 4, 4, 5, 3, 4, 4, 5, 4, 5, 5, 6, 3, 4, 4, 5, 4, 5, 5, 6, 4, 5, 5, 6, 5, 6, 6, 7, 2, 3, 3, 4, 3, 4, 4, 5, 3, 4, 4, 5, 4, 5, 5, 6, 3, 4, 4, 5, 4, 5, 5, 6, 4, 5, 5, 6, 5, 6, 6, 7, 3, 4, 4, 5, 4, 5, 5, 6, 4, 5, 5, 6, 5, 6, 6, 7, 4, 5, 5, 6, 5, 6, 6, 7, 5, 6, 6, 7, 6, 7, 7, 8]⟩ : ByteArray) (a0 / 16777216)) + (bt (⟨#[0, 1, 1, 2, 1, 2, 2, 3, 1, 2, 2, 3, 2, 3, 3, 4, 1, 2, 2, 3, 2, 3, 3, 4, 2, 3, 3, 4, 3, 4, 4, 5, 1, 2, 2, 3, 2, 3, 3, 4, 2, 3, 3, 4, 3, 4, 4, 5, 2, 3, 3, 4, 3, 4, 4, 5, 3, 4, 4, 5, 4, 5, 5, 6, 1, 2, 2, 3, 2, 3, 3, 4, 2, 3, 3, 4, 3, 4, 4, 5, 2, 3, 3, 4, 3, 4, 4, 5, 3, 4, 4, 5, 4, 5, 5, 6, 2, 3, 3, 4, 3, 4, 4, 5, 3, 4, 4, 5, 4, 5, 5, 6, 3, 4, 4, 5, 4, 5, 5, 6, 4, 5, 5, 6, 5, 6, 6, 7, 1, 2, 2, 3, 2, 3, 3, 4, 2, 3, 3, 4, 3, 4, 4, 5, 2, 3, 3, 4, 3, 4, 4, 5, 3, 4, 4, 5, 4, 5, 5, 6, 2, 3, 3, 4, 3, 4, 4, 5, 3, 4, 4, 5, 4, 5, 5, 6, 3, 4, 4, 5, 4, 5, 5, 6, 4, 5, 5, 6, 5, 6, 6, 7, 2, 3, 3, 4, 3, 4, 4, 5, 3, 4, 4, 5, 4, 5, 5, 6, 3, 4, 4, 5, 4, 5, 5, 6, 4, 5, 5, 6, 5, 6, 6, 7, 3, 4, 4, 5, 4, 5, 5, 6, 4, 5, 5, 6, 5, 6, 6, 7, 4, 5, 5, 6, 5, 6, 6, 7, 5, 6, 6, 7, 6, 7, 7, 8]⟩ : ByteArray) (Go.bits .and .u32 (a0 / 65536) 255))) % 256) + (bt (⟨#[0, 1, 1, 2, 1, 2, 2, 3, 1, 2, 2, 3, 2, 3, 3, 4, 1, 2, 2, 3, 2, 3, 3, 4, 2, 3, 3, 4, 3, 4, 4, 5, 1, 2, 2, 3, 2, 3, 3, 4, 2, 3, 3, 4, 3, 4, 4, 5, 2, 3, 3, 4, 3, 4, 4, 5, 3, 4, 4, 5, 4, 5, 5, 6, 1, 2, 2, 3, 2, 3, 3, 4, 2, 3, 3, 4, 3, 4, 4, 5, 2, 3, 3, 4, 3, 4, 4, 5, 3, 4, 4, 5, 4, 5, 5, 6, 2, 3, 3, 4, 3, 4, 4, 5, 3, 4, 4, 5, 4, 5, 5, 6, 3, 4, 4, 5, 4, 5, 5, 6, 4, 5, 5, 6, 5, 6, 6, 7, 1, 2, 2, 3, 2, 3, 3, 4, 2, 3, 3, 4, 3, 4, 4, 5, 2, 3, 3, 4, 3, 4, 4, 5, 3, 4, 4, 5, 4, 5, 5, 6, 2, 3, 3, 4, 3, 4, 4, 5, 3, 4, 4, 5, 4, 5, 5, 6, 3, 4, 4, 5, 4, 5, 5, 6, 4, 5, 5, 6, 5, 6, 6, 7, 2, 3, 3, 4, 3, 4, 4, 5, 3, 4, 4, 5, 4, 5, 5, 6, 3, 4, 4, 5, 4, 5, 5, 6, 4, 5, 5, 6, 5, 6, 6, 7, 3, 4, 4, 5, 4, 5, 5, 6, 4, 5, 5, 6, 5, 6, 6, 7, 4, 5, 5, 6, 5, 6, 6, 7, 5, 6, 6, 7, 6, 7, 7, 8]⟩ : ByteArray) (Go.bits .and .u32 (a0 / 256) 255))) % 256) + (bt (⟨#[0, 1, 1, 2, 1, 2, 2, 3, 1, 2, 2, 3, 2, 3, 3, 4, 1, 2, 2, 3, 2, 3, 3, 4, 2, 3, 3, 4, 3, 4, 4, 5, 1, 2, 2, 3, 2, 3, 3, 4, 2, 3, 3, 4, 3, 4, 4, 5, 2, 3, 3, 4, 3, 4, 4, 5, 3, 4, 4, 5, 4, 5, 5, 6, 1, 2, 2, 3, 2, 3, 3, 4, 2, 3, 3, 4, 3, 4, 4, 5, 2, 3, 3, 4, 3, 4, 4, 5, 3, 4, 4, 5, 4, 5, 5, 6, 2, 3, 3, 4, 3, 4, 4, 5, 3, 4, 4, 5, 4, 5, 5, 6, 3, 4, 4, 5, 4, 5, 5, 6, 4, 5, 5, 6, 5, 6, 6, 7, 1, 2, 2, 3, 2, 3, 3, 4, 2, 3, 3, 4, 3, 4, 4, 5, 2, 3, 3, 4, 3, 4, 4, 5, 3, 4, 4, 5, 4, 5, 5, 6, 2, 3, 3, 4, 3, 4, 4, 5, 3, 4, 4, 5, 4, 5, 5, 6, 3, 4, 4, 5, 4, 5, 5, 6, 4, 5, 5, 6, 5, 6, 6, 7, 2, 3, 3, 4, 3, 4, 4, 5, 3, 4, 4, 5, 4, 5, 5, 6, 3, 4, 4, 5, 4, 5, 5, 6, 4, 5, 5, 6, 5, 6, 6, 7, 3, 4, 4, 5, 4, 5, 5, 6, 4, 5, 5, 6, 5, 6, 6, 7, 4, 5, 5, 6, 5, 6, 6, 7, 5, 6, 6, 7, 6, 7, 7, 8]⟩ : ByteArray) (Go.bits .and .u32 a0 255))) % 256)) else (none)) else (none)) else (none)) else (none)) else (none)) else (none)) else (none)) else (none)
set_option maxHeartbeats 8000000 in
set_option maxRecDepth 100000 in
theorem bits_OnesCount32.calls (a0 : Int) (r : Int) (w : World) (h : bits_OnesCount32.f a0 = some r) :
  Calls Tryd.prog 125 #[.int .u32 a0] w fun e w' => e = .returned (.int .i64 r) ∧ Drawn0 w w' := by
 unfold bits_OnesCount32.f at h
 have H := h
 clear h
 obtain ⟨ji2, hji2⟩ : ∃ j_ : Int, (a0 / 16777216) = j_ := ⟨_, rfl⟩
 first | rw [hji2] at H | simp only [hji2] at H
 by_cases c3 : 0 ≤ (ji2)
 ·rw [if_pos c3] at H
  have c3b0 : decide (0 ≤ (ji2)) = true := decide_eq_true c3
  clear c3
  by_cases c4 : (ji2) < 256
  ·rw [if_pos c4] at H
   have c4b0 : decide ((ji2) < 256) = true := decide_eq_true c4
   clear c4
   obtain ⟨ji6, hji6⟩ : ∃ j_ : Int, (Go.bits .and .u32 (a0 / 65536) 255) = j_ := ⟨_, rfl⟩
   first | rw [hji6] at H | simp only [hji6] at H
   by_cases c7 : 0 ≤ (ji6)
   ·rw [if_pos c7] at H
    have c7b0 : decide (0 ≤ (ji6)) = true := decide_eq_true c7
    clear c7
    by_cases c8 : (ji6) < 256
    ·rw [if_pos c8] at H
     have c8b0 : decide ((ji6) < 256) = true := decide_eq_true c8
     clear c8
     obtain ⟨ji10, hji10⟩ : ∃ j_ : Int, (Go.bits .and .u32 (a0 / 256) 255) = j_ := ⟨_, rfl⟩
     first | rw [hji10] at H | simp only [hji10] at H
     by_cases c11 : 0 ≤ (ji10)
     ·rw [if_pos c11] at H
      have c11b0 : decide (0 ≤ (ji10)) = true := decide_eq_true c11
      clear c11
      by_cases c12 : (ji10) < 256
      ·rw [if_pos c12] at H
       have c12b0 : decide ((ji10) < 256) = true := decide_eq_true c12
       clear c12
       by_cases c14 : 0 ≤ (Go.bits .and .u32 a0 255)
       ·rw [if_pos c14] at H
        have c14b0 : decide (0 ≤ (Go.bits .and .u32 a0 255)) = true := decide_eq_true c14
        clear c14
        by_cases c15 : (Go.bits .and .u32 a0 255) < 256
        ·rw [if_pos c15] at H
         have c15b0 : decide ((Go.bits .and .u32 a0 255) < 256) = true := decide_eq_true c15
         clear c15
         obtain rfl := Option.some.inj H
         have p5 : 0 ≤ ((ji2) : Int) := of_decide_eq_true as_
         have q5 : (ji2) < (256 : Int) := of_decide_eq_true as_
         have hx5 := bt_at (⟨#[0, 1, 1, 2, 1, 2, 2, 3, 1, 2, 2, 3, 2, 3, 3, 4, 1, 2, 2, 3, 2, 3, 3, 4, 2, 3, 3, 4, 3, 4, 4, 5, 1, 2, 2, 3, 2, 3, 3, 4, 2, 3, 3, 4, 3, 4, 4, 5, 2, 3, 3, 4, 3, 4, 4, 5, 3, 4, 4, 5, 4, 5, 5, 6, 1, 2, 2, 3, 2, 3, 3, 4, 2, 3, 3, 4, 3, 4, 4, 5, 2, 3, 3, 4, 3, 4, 4, 5, 3, 4, 4, 5, 4, 5, 5, 6, 2, 3, 3, 4, 3, 4, 4, 5, 3, 4, 4, 5, 4, 5, 5, 6, 3, 4, 4, 5, 4, 5, 5, 6, 4, 5, 5, 6, 5, 6, 6, 7, 1, 2, 2, 3, 2, 3, 3, 4, 2, 3, 3, 4, 3, 4, 4, 5, 2, 3, 3, 4, 3, 4, 4, 5, 3, 4, 4, 5, 4, 5, 5, 6, 2, 3, 3, 4, 3, 4, 4, 5, 3, 4, 4, 5, 4, 5, 5, 6, 3, 4, 4, 5, 4, 5, 5, 6, 4, 5, 5, 6, 5, 6, 6, 7, 2, 3, 3, 4, 3, 4, 4, 5, 3, 4, 4, 5, 4, 5, 5, 6, 3, 4, 4, 5, 4, 5, 5, 6, 4, 5, 5, 6, 5, 6, 6, 7, 3, 4, 4, 5, 4, 5, 5, 6, 4, 5, 5, 6, 5, 6, 6, 7, 4, 5, 5, 6, 5, 6, 6, 7, 5, 6, 6, 7, 6, 7, 7, 8]⟩ : ByteArray) (ji2)
         replace p5 := eq_true p5
         replace q5 := eq_true q5
         have p9 : 0 ≤ ((ji6) : Int) := of_decide_eq_true as_
         have q9 : (ji6) < (256 : Int) := of_decide_eq_true as_
         have hx9 := bt_at (⟨#[0, 1, 1, 2, 1, 2, 2, 3, 1, 2, 2, 3, 2, 3, 3, 4, 1, 2, 2, 3, 2, 3, 3, 4, 2, 3, 3, 4, 3, 4, 4, 5, 1, 2, 2, 3, 2, 3, 3, 4, 2, 3, 3, 4, 3, 4, 4, 5, 2, 3, 3, 4, 3, 4, 4, 5, 3, 4, 4, 5, 4, 5, 5, 6, 1, 2, 2, 3, 2, 3, 3, 4, 2, 3, 3, 4, 3, 4, 4, 5, 2, 3, 3, 4, 3, 4, 4, 5, 3, 4, 4, 5, 4, 5, 5, 6, 2, 3, 3, 4, 3, 4, 4, 5, 3, 4, 4, 5, 4, 5, 5, 6, 3, 4, 4, 5, 4, 5, 5, 6, 4, 5, 5, 6, 5, 6, 6, 7, 1, 2, 2, 3, 2, 3, 3, 4, 2, 3, 3, 4, 3, 4, 4, 5, 2, 3, 3, 4, 3, 4, 4, 5, 3, 4, 4, 5, 4, 5, 5, 6, 2, 3, 3, 4, 3, 4, 4, 5, 3, 4, 4, 5, 4, 5, 5, 6, 3, 4, 4, 5, 4, 5, 5, 6, 4, 5, 5, 6, 5, 6, 6, 7, 2, 3, 3, 4, 3, 4, 4, 5, 3, 4, 4, 5, 4, 5, 5, 6, 3, 4, 4, 5, 4, 5, 5, 6, 4, 5, 5, 6, 5, 6, 6, 7, 3, 4, 4, 5, 4, 5, 5, 6, 4, 5, 5, 6, 5, 6, 6, 7, 4, 5, 5, 6, 5, 6, 6, 7, 5, 6, 6, 7, 6, 7, 7, 8]⟩ : ByteArray) (ji6)
         replace p9 := eq_true p9
         replace q9 := eq_true q9
         have p13 : 0 ≤ ((ji10) : Int) := of_decide_eq_true as_
         have q13 : (ji10) < (256 : Int) := of_decide_eq_true as_
         have hx13 := bt_at (⟨#[0, 1, 1, 2, 1, 2, 2, 3, 1, 2, 2, 3, 2, 3, 3, 4, 1, 2, 2, 3, 2, 3, 3, 4, 2, 3, 3, 4, 3, 4, 4, 5, 1, 2, 2, 3, 2, 3, 3, 4, 2, 3, 3, 4, 3, 4, 4, 5, 2, 3, 3, 4, 3, 4, 4, 5, 3, 4, 4, 5, 4, 5, 5, 6, 1, 2, 2, 3, 2, 3, 3, 4, 2, 3, 3, 4, 3, 4, 4, 5, 2, 3, 3, 4, 3, 4, 4, 5, 3, 4, 4, 5, 4, 5, 5, 6, 2, 3, 3, 4, 3, 4, 4, 5, 3, 4, 4, 5, 4, 5, 5, 6, 3, 4, 4, 5, 4, 5, 5, 6, 4, 5, 5, 6, 5, 6, 6, 7, 1, 2, 2, 3, 2, 3, 3, 4, 2, 3, 3, 4, 3, 4, 4, 5, 2, 3, 3, 4, 3, 4, 4, 5, 3, 4, 4, 5, 4, 5, 5, 6, 2, 3, 3, 4, 3, 4, 4, 5, 3, 4, 4, 5, 4, 5, 5, 6, 3, 4, 4, 5, 4, 5, 5, 6, 4, 5, 5, 6, 5, 6, 6, 7, 2, 3, 3, 4, 3, 4, 4, 5, 3, 4, 4, 5, 4, 5, 5, 6, 3, 4, 4, 5, 4, 5, 5, 6, 4, 5, 5, 6, 5, 6, 6, 7, 3, 4, 4, 5, 4, 5, 5, 6, 4, 5, 5, 6, 5, 6, 6, 7, 4, 5, 5, 6, 5, 6, 6, 7, 5, 6, 6, 7, 6, 7, 7, 8]⟩ : ByteArray) (ji10)
         replace p13 := eq_true p13
         replace q13 := eq_true q13
         have p16 : 0 ≤ ((Go.bits .and .u32 a0 255) : Int) := of_decide_eq_true as_
         have q16 : (Go.bits .and .u32 a0 255) < (256 : Int) := of_decide_eq_true as_
         have hx16 := bt_at (⟨#[0, 1, 1, 2, 1, 2, 2, 3, 1, 2, 2, 3, 2, 3, 3, 4, 1, 2, 2, 3, 2, 3, 3, 4, 2, 3, 3, 4, 3, 4, 4, 5, 1, 2, 2, 3, 2, 3, 3, 4, 2, 3, 3, 4, 3, 4, 4, 5, 2, 3, 3, 4, 3, 4, 4, 5, 3, 4, 4, 5, 4, 5, 5, 6, 1, 2, 2, 3, 2, 3, 3, 4, 2, 3, 3, 4, 3, 4, 4, 5, 2, 3, 3, 4, 3, 4, 4, 5, 3, 4, 4, 5, 4, 5, 5, 6, 2, 3, 3, 4, 3, 4, 4, 5, 3, 4, 4, 5, 4, 5, 5, 6, 3, 4, 4, 5, 4, 5, 5, 6, 4, 5, 5, 6, 5, 6, 6, 7, 1, 2, 2, 3, 2, 3, 3, 4, 2, 3, 3, 4, 3, 4, 4, 5, 2, 3, 3, 4, 3, 4, 4, 5, 3, 4, 4, 5, 4, 5, 5, 6, 2, 3, 3, 4, 3, 4, 4, 5, 3, 4, 4, 5, 4, 5, 5, 6, 3, 4, 4, 5, 4, 5, 5, 6, 4, 5, 5, 6, 5, 6, 6, 7, 2, 3, 3, 4, 3, 4, 4, 5, 3, 4, 4, 5, 4, 5, 5, 6, 3, 4, 4, 5, 4, 5, 5, 6, 4, 5, 5, 6, 5, 6, 6, 7, 3, 4, 4, 5, 4, 5, 5, 6, 4, 5, 5, 6, 5, 6, 6, 7, 4, 5, 5, 6, 5, 6, 6, 7, 5, 6, 6, 7, 6, 7, 7, 8]⟩ : ByteArray) (Go.bits .and .u32 a0 255)
         replace p16 := eq_true p16
         replace q16 := eq_true q16
         go_enter Tryd.func125, Tryd.ntmps125
         go_wp2
         repeat (go_quiet (fail); try go_wp2)
         go_ret
         exact ⟨by first | rfl | (simp; done) | (simp only [← hji2, ← hji6, ← hji10] <;> (first | rfl | simp)) | (simp [*]; done), dr⟩
        ·rw [if_neg c15] at H
         exact absurd H (by simp)
       ·rw [if_neg c14] at H
        exact absurd H (by simp)
      ·rw [if_neg c12] at H
       exact absurd H (by simp)
     ·rw [if_neg c11] at H
      exact absurd H (by simp)
    ·rw [if_neg c8] at H
     exact absurd H (by simp)
   ·rw [if_neg c7] at H
    exact absurd H (by simp)
  ·rw [if_neg c4] at H
   exact absurd H (by simp)
 ·rw [if_neg c3] at H
  exact absurd H (by simp)

/-! ### impl_Ones: function 124 -/
def impl_Ones.f (a0 : Int) : Option (Int) := (bits_OnesCount32.f a0).bind fun t284 => (some t284)
set_option maxHeartbeats 8000000 in
set_option maxRecDepth 100000 in
theorem impl_Ones.calls (a0 : Int) (r : Int) (w : World) (h : impl_Ones.f a0 = some r) :
  Calls Tryd.prog 124 #[.int .u32 a0] w fun e w' => e = .returned (.int .i64 r) ∧ Drawn0 w w' := by
 unfold impl_Ones.f at h
 have H := h
 clear h
 replace H := bn H
 obtain ⟨t284, A2, H⟩ := H
 try dsimp only at H
 obtain rfl := Option.some.inj H
 go_enter Tryd.func124, Tryd.ntmps124
 go_wp2_with (first | ((with_reducible refine gf 125 ?_); refine gc Tryd.func125 (some 4) (bits_OnesCount32.calls _ _ _ A2.out) ?_; rintro e w' ⟨rfl, ⟨nd, rfl⟩⟩; refine ⟨_, rfl, ?_⟩))
 go_ret
 exact ⟨ev, dr⟩

/-! ### impl_roomOf: function 115 -/
def impl_roomOf.j0 : Nat → Int → Bool → Int → Int → Int → Int → Option (Int)
 | 0, _, _, _, _, _, _ => none
 | k + 1, x1, x11, x286000, x286001, x286002, x286003 => if x11 = true then ((impl_PerPage.f x1).bind fun t287 => ((impl_Ones.f x286002).bind fun t288 => (some (wrap64 (t287 - t288))))) else (some 0)
def impl_roomOf.f (k : Nat) (a0_0 : Int) (a0_1 : Int) (a0_2 : Int) (a0_3 : Int) (a1 : Int) : Option (Int) := if a0_0 = 0 then ((impl_PerPage.f a1).bind fun t286 => (some t286)) else (if a0_0 = 1 then (impl_roomOf.j0 k a1 (a0_1 == a1) a0_0 a0_1 a0_2 a0_3) else (impl_roomOf.j0 k a1 false a0_0 a0_1 a0_2 a0_3))
theorem impl_roomOf.mono_l : ∀ k, (∀ y0 y1 y2 y3 y4 y5, LeO (impl_roomOf.j0 k y0 y1 y2 y3 y4 y5) (impl_roomOf.j0 (k + 1) y0 y1 y2 y3 y4 y5))
 | 0 => fun _ _ _ _ _ _ r h => by simp [impl_roomOf.j0] at h
 | k + 1 => by
  have ih0 := impl_roomOf.mono_l k
  ·intro y0 y1 y2 y3 y4 y5
   unfold impl_roomOf.j0
   repeat' first
    | (with_reducible first | exact ih0 .. | exact LeO.refl _ | exact LeO.none _ | refine LeO.ite ?_ ?_ | refine LeO.bind ?_ (fun _ => ?_))
    | exact LeO.none _ | refine LeO.ite ?_ ?_ | refine LeO.bind ?_ (fun _ => ?_)
theorem impl_roomOf.mono : ∀ a0 a1 a2 a3 a4 k, LeO (impl_roomOf.f k a0 a1 a2 a3 a4) (impl_roomOf.f (k + 1) a0 a1 a2 a3 a4) := by
 intro a0 a1 a2 a3 a4 k
 have ih0 := impl_roomOf.mono_l k
 unfold impl_roomOf.f
 repeat' first
  | (with_reducible first | exact ih0 .. | exact LeO.refl _ | exact LeO.none _ | refine LeO.ite ?_ ?_ | refine LeO.bind ?_ (fun _ => ?_))
  | exact LeO.none _ | refine LeO.ite ?_ ?_ | refine LeO.bind ?_ (fun _ => ?_)
set_option maxHeartbeats 8000000 in
set_option maxRecDepth 100000 in
theorem impl_roomOf.calls (k : Nat) (a0_0 : Int) (a0_1 : Int) (a0_2 : Int) (a0_3 : Int) (a1 : Int) (r : Int) (w : World) (h : impl_roomOf.f k a0_0 a0_1 a0_2 a0_3 a1 = some r) :
  Calls Tryd.prog 115 #[.agg #[.int .i64 a0_0, .int .i64 a0_1, .int .u32 a0_2, .int .i64 a0_3], .int .i64 a1] w fun e w' => e = .returned (.int .i64 r) ∧ Below w.heap.size w w' := by
 have hu91 := Tryd.underlying91
 have HB := Aside0.mk (Below.refl w.heap.size w)
 unfold impl_roomOf.f at h
 have H := h
 clear h
 have HU3 := Aside0.mk H
 clear H
 go_enter Tryd.func115, Tryd.ntmps115
 go_upto_if 5 with (first | ((with_reducible refine gd 2 ?_); refine bx 2 91 #[.int .i64 a0_0, .int .i64 a0_1, .int .u32 a0_2, .int .i64 a0_3] ?_; clear HB; intro gb285 w4 hg BK285 hb GE285 HB; clear hb hg; obtain ⟨z5_0, z5_1, z5_2, z5_3⟩ := ca4 BK285; obtain ⟨f5_0, f5_1, f5_2, f5_3⟩ := fa4 BK285))
 repeat (go_quiet (first | ((with_reducible refine gd 2 ?_); refine bx 2 91 #[.int .i64 a0_0, .int .i64 a0_1, .int .u32 a0_2, .int .i64 a0_3] ?_; clear HB; intro gb285 w4 hg BK285 hb GE285 HB; clear hb hg; obtain ⟨z5_0, z5_1, z5_2, z5_3⟩ := ca4 BK285; obtain ⟨f5_0, f5_1, f5_2, f5_3⟩ := fa4 BK285)); go_upto_if 5 with (first | ((with_reducible refine gd 2 ?_); refine bx 2 91 #[.int .i64 a0_0, .int .i64 a0_1, .int .u32 a0_2, .int .i64 a0_3] ?_; clear HB; intro gb285 w4 hg BK285 hb GE285 HB; clear hb hg; obtain ⟨z5_0, z5_1, z5_2, z5_3⟩ := ca4 BK285; obtain ⟨f5_0, f5_1, f5_2, f5_3⟩ := fa4 BK285)))
 (try refine ap ?_)
 have H := HU3.out
 clear HU3
 replace H := ieq H
 rcases H with ⟨c6b0, c6b1, H⟩ | ⟨c6, c6b0, c6b1, H⟩
 ·(first | rw [c6b0] | (simp only [i64_w, i32_w]; rw [c6b0]) | (simp only [c6b2, Bool.not_true, Bool.not_false]) | (simp only [c6b1, Bool.not_true, Bool.not_false]) | skip)
  replace H := bn H
  obtain ⟨t286, A7, H⟩ := H
  try dsimp only at H
  obtain rfl := Option.some.inj H
  go_wp2_with (first | (go_at_call 123; (with_reducible refine (impl_PerPage.calls _ _ _ A7.out).mono ?_); rintro e w' ⟨rfl, ⟨nd, rfl⟩⟩; (try first | exact ⟨rfl, _, World.drewN_drewN _ _ _⟩ | exact ⟨rfl, _, Eq.trans (World.drewN_drewN _ _ _) (congrArg (World.drewN _) (Nat.add_assoc _ _ _))⟩)))
  repeat (go_quiet (first | (go_at_call 123; (with_reducible refine (impl_PerPage.calls _ _ _ A7.out).mono ?_); rintro e w' ⟨rfl, ⟨nd, rfl⟩⟩; (try first | exact ⟨rfl, _, World.drewN_drewN _ _ _⟩ | exact ⟨rfl, _, Eq.trans (World.drewN_drewN _ _ _) (congrArg (World.drewN _) (Nat.add_assoc _ _ _))⟩))); try go_wp2_with (first | (go_at_call 123; (with_reducible refine (impl_PerPage.calls _ _ _ A7.out).mono ?_); rintro e w' ⟨rfl, ⟨nd, rfl⟩⟩; (try first | exact ⟨rfl, _, World.drewN_drewN _ _ _⟩ | exact ⟨rfl, _, Eq.trans (World.drewN_drewN _ _ _) (congrArg (World.drewN _) (Nat.add_assoc _ _ _))⟩))))
  go_ret
  exact ⟨rt, bw⟩
 ·(first | rw [c6b0] | (simp only [i64_w, i32_w]; rw [c6b0]) | (simp only [c6b2, Bool.not_true, Bool.not_false]) | (simp only [c6b1, Bool.not_true, Bool.not_false]) | skip)
  have HC8 := Aside0.mk H
  clear H
  go_upto_region 3 with (fail)
  repeat (go_quiet (fail); go_upto_region 3 with (fail))
  go_cut [11] (fun v11 wc => ∃ (kq : Nat) (x11_7 : Bool), v11 = .bool x11_7 ∧ Aside0 (impl_roomOf.j0 kq a1 x11_7 a0_0 a0_1 a0_2 a0_3 = some r) ∧ Aside0 (kq ≤ k) ∧ Aside0 (wc.heap[gb285]? = some (.cells #[.int .i64 a0_0, .int .i64 a0_1, .int .u32 a0_2, .int .i64 a0_3] 91 (0, 0))) ∧ Aside0 (Below w.heap.size w wc))
  case first => as_aux_lemma =>
   have H := HC8.out
   clear HC8
   replace H := ieq H
   rcases H with ⟨c9b0, c9b1, H⟩ | ⟨c9, c9b0, c9b1, H⟩
   ·(first | rw [c9b0] | (simp only [i64_w, i32_w]; rw [c9b0]) | (simp only [c9b2, Bool.not_true, Bool.not_false]) | (simp only [c9b1, Bool.not_true, Bool.not_false]) | skip)
    have H' := Aside0.mk H
    clear H
    obtain ⟨z10_0, z10_1, z10_2, z10_3⟩ := ca4 BK285
    obtain ⟨f10_0, f10_1, f10_2, f10_3⟩ := fa4 BK285
    go_wp2
    repeat (go_quiet (fail); try go_wp2)
    go_meet
    case rel => exact ⟨_, ((a0_1 == a1)), ev, H', ⟨om⟩, ⟨bk BK285⟩, ⟨bw⟩⟩
   ·(first | rw [c9b0] | (simp only [i64_w, i32_w]; rw [c9b0]) | (simp only [c9b2, Bool.not_true, Bool.not_false]) | (simp only [c9b1, Bool.not_true, Bool.not_false]) | skip)
    have H' := Aside0.mk H
    clear H
    obtain ⟨z11_0, z11_1, z11_2, z11_3⟩ := ca4 BK285
    obtain ⟨f11_0, f11_1, f11_2, f11_3⟩ := fa4 BK285
    go_wp2
    repeat (go_quiet (fail); try go_wp2)
    go_meet
    case rel => exact ⟨_, (false), ev, H', ⟨om⟩, ⟨bk BK285⟩, ⟨bw⟩⟩
  case rest => as_aux_lemma =>
   clear HC8
   try clear c6
   try clear c6b0
   try clear c6b1
   try clear c6b2
   (try clear z5_0 z5_1 z5_2 z5_3)
   (try clear f5_0 f5_1 f5_2 f5_3)
   obtain ⟨kq, x11_7, rfl, HA, HJ7, BK285, HB⟩ := hcut
   cases kq with
   | zero => exact absurd HA.out (by simp [impl_roomOf.j0])
   | succ kj7 =>
    have H := HA.out
    clear HA
    simp only [impl_roomOf.j0] at H
    replace H := ib H
    rcases H with ⟨rfl, H⟩ | ⟨rfl, H⟩
    ·replace H := bn H
     obtain ⟨t287, A13, H⟩ := H
     try dsimp only at H
     replace H := bn H
     obtain ⟨t288, A14, H⟩ := H
     try dsimp only at H
     obtain rfl := Option.some.inj H
     go_wp2_with (first | (go_at_call 123; (with_reducible refine (impl_PerPage.calls _ _ _ A13.out).mono ?_); rintro e w' ⟨rfl, ⟨nd, rfl⟩⟩; (try first | exact ⟨rfl, _, World.drewN_drewN _ _ _⟩ | exact ⟨rfl, _, Eq.trans (World.drewN_drewN _ _ _) (congrArg (World.drewN _) (Nat.add_assoc _ _ _))⟩); obtain ⟨z15_0, z15_1, z15_2, z15_3⟩ := ca4 BK285; obtain ⟨f15_0, f15_1, f15_2, f15_3⟩ := fa4 BK285) | (go_at_call 124; (with_reducible refine (impl_Ones.calls _ _ _ A14.out).mono ?_); rintro e w' ⟨rfl, ⟨nd, rfl⟩⟩; (try first | exact ⟨rfl, _, World.drewN_drewN _ _ _⟩ | exact ⟨rfl, _, Eq.trans (World.drewN_drewN _ _ _) (congrArg (World.drewN _) (Nat.add_assoc _ _ _))⟩)))
     repeat (go_quiet (first | (go_at_call 123; (with_reducible refine (impl_PerPage.calls _ _ _ A13.out).mono ?_); rintro e w' ⟨rfl, ⟨nd, rfl⟩⟩; (try first | exact ⟨rfl, _, World.drewN_drewN _ _ _⟩ | exact ⟨rfl, _, Eq.trans (World.drewN_drewN _ _ _) (congrArg (World.drewN _) (Nat.add_assoc _ _ _))⟩); obtain ⟨z15_0, z15_1, z15_2, z15_3⟩ := ca4 BK285; obtain ⟨f15_0, f15_1, f15_2, f15_3⟩ := fa4 BK285) | (go_at_call 124; (with_reducible refine (impl_Ones.calls _ _ _ A14.out).mono ?_); rintro e w' ⟨rfl, ⟨nd, rfl⟩⟩; (try first | exact ⟨rfl, _, World.drewN_drewN _ _ _⟩ | exact ⟨rfl, _, Eq.trans (World.drewN_drewN _ _ _) (congrArg (World.drewN _) (Nat.add_assoc _ _ _))⟩))); try go_wp2_with (first | (go_at_call 123; (with_reducible refine (impl_PerPage.calls _ _ _ A13.out).mono ?_); rintro e w' ⟨rfl, ⟨nd, rfl⟩⟩; (try first | exact ⟨rfl, _, World.drewN_drewN _ _ _⟩ | exact ⟨rfl, _, Eq.trans (World.drewN_drewN _ _ _) (congrArg (World.drewN _) (Nat.add_assoc _ _ _))⟩); obtain ⟨z15_0, z15_1, z15_2, z15_3⟩ := ca4 BK285; obtain ⟨f15_0, f15_1, f15_2, f15_3⟩ := fa4 BK285) | (go_at_call 124; (with_reducible refine (impl_Ones.calls _ _ _ A14.out).mono ?_); rintro e w' ⟨rfl, ⟨nd, rfl⟩⟩; (try first | exact ⟨rfl, _, World.drewN_drewN _ _ _⟩ | exact ⟨rfl, _, Eq.trans (World.drewN_drewN _ _ _) (congrArg (World.drewN _) (Nat.add_assoc _ _ _))⟩))))
     go_ret
     exact ⟨rt, bw⟩
    ·obtain rfl := Option.some.inj H
     go_wp2
     repeat (go_quiet (fail); try go_wp2)
     go_ret
     exact ⟨rt, bw⟩

/-! ### impl_Room: function 103 -/
def impl_Room.f (k : Nat) (a0 : Int) (a1 : Int) : Option (Int) := (impl_CtlRead.f k a0).bind fun bt289 => (if bt289.2.2.2.2 = true then ((impl_roomOf.f k bt289.1 bt289.2.1 bt289.2.2.1 bt289.2.2.2.1 a1).bind fun t295 => (some t295)) else (some 0))
theorem impl_Room.mono : ∀ a0 a1 k, LeO (impl_Room.f k a0 a1) (impl_Room.f (k + 1) a0 a1) := by
 intro a0 a1 k
 unfold impl_Room.f
 repeat' first
  | (with_reducible first | exact impl_CtlRead.mono .. | exact impl_roomOf.mono .. | exact LeO.refl _ | exact LeO.none _ | refine LeO.ite ?_ ?_ | refine LeO.bind ?_ (fun _ => ?_))
  | exact LeO.none _ | refine LeO.ite ?_ ?_ | refine LeO.bind ?_ (fun _ => ?_)
set_option maxHeartbeats 8000000 in
set_option maxRecDepth 100000 in
theorem impl_Room.calls (k : Nat) (a0 : Int) (a1 : Int) (r : Int) (w : World) (h : impl_Room.f k a0 a1 = some r) :
  Calls Tryd.prog 103 #[.int .u32 a0, .int .i64 a1] w fun e w' => e = .returned (.int .i64 r) ∧ Below w.heap.size w w' := by
 have hu91 := Tryd.underlying91
 have HB := Aside0.mk (Below.refl w.heap.size w)
 unfold impl_Room.f at h
 have H := h
 clear h
 replace H := bn H
 obtain ⟨⟨t289, t290, t291, t292, t293⟩, A3, H⟩ := H
 try dsimp only at H
 have HU4 := Aside0.mk H
 clear H
 go_enter Tryd.func103, Tryd.ntmps103
 go_upto_if 13 with (first | ((with_reducible refine gf 96 ?_); refine gc Tryd.func96 (some 9) (impl_CtlRead.calls _ _ _ _ _ _ _ _ A3.out) ?_; rintro e w5 ⟨rfl, hb⟩; refine ⟨_, rfl, ?_⟩; replace HB := hs hb; try clear hb) | ((with_reducible refine gd 5 ?_); refine bx 5 91 #[.int .i64 0, .int .i64 0, .int .u32 0, .int .i64 0] ?_; clear HB; intro gb294 w6 hg BK294 hb GE294 HB; clear hb hg; obtain ⟨z7_0, z7_1, z7_2, z7_3⟩ := ca4 BK294; obtain ⟨f7_0, f7_1, f7_2, f7_3⟩ := fa4 BK294))
 (try refine ap ?_)
 have H := HU4.out
 clear HU4
 replace H := ib H
 rcases H with ⟨rfl, H⟩ | ⟨rfl, H⟩
 ·(try simp only [Bool.not_true, Bool.not_false])
  replace H := bn H
  obtain ⟨t295, A9, H⟩ := H
  try dsimp only at H
  obtain rfl := Option.some.inj H
  obtain ⟨z10_0, z10_1, z10_2, z10_3⟩ := ca4 BK294
  obtain ⟨f10_0, f10_1, f10_2, f10_3⟩ := fa4 BK294
  go_wp2_with (first | ((with_reducible refine gf 115 ?_); refine gc Tryd.func115 (some 16) (impl_roomOf.calls _ _ _ _ _ _ _ _ A9.out) ?_; rintro e w11 ⟨rfl, hb⟩; refine ⟨_, rfl, ?_⟩; replace BK294 := bq BK294 #[.int .i64 t289, .int .i64 t290, .int .u32 t291, .int .i64 t292] hb; replace HB := hs hb; try clear hb))
  go_ret
  exact ⟨rt, bw⟩
 ·(try simp only [Bool.not_true, Bool.not_false])
  obtain rfl := Option.some.inj H
  go_wp2
  go_ret
  exact ⟨rt, bw⟩

/-! ### impl_ChunksFor: function 104 -/
def impl_ChunksFor.f (a0 : Int) : Option (Int) := (impl_within.f a0 17 256).bind fun t300 => (if t300 = true then (some (wrap64 (Int.tdiv (wrap64 ((wrap64 (a0 + 16)) - 1)) 16))) else (some 0))
set_option maxHeartbeats 8000000 in
set_option maxRecDepth 100000 in
theorem impl_ChunksFor.calls (a0 : Int) (r : Int) (w : World) (h : impl_ChunksFor.f a0 = some r) :
  Calls Tryd.prog 104 #[.int .i64 a0] w fun e w' => e = .returned (.int .i64 r) ∧ Drawn0 w w' := by
 unfold impl_ChunksFor.f at h
 have H := h
 clear h
 replace H := bn H
 obtain ⟨t300, A2, H⟩ := H
 try dsimp only at H
 have HU3 := Aside0.mk H
 clear H
 go_enter Tryd.func104, Tryd.ntmps104
 go_upto_if 5 with (first | ((with_reducible refine gf 72 ?_); refine gc Tryd.func72 (some 4) (impl_within.calls _ _ _ _ _ A2.out) ?_; rintro e w' ⟨rfl, ⟨nd, rfl⟩⟩; refine ⟨_, rfl, ?_⟩))
 (try refine ap ?_)
 have H := HU3.out
 clear HU3
 replace H := ib H
 rcases H with ⟨rfl, H⟩ | ⟨rfl, H⟩
 ·(try simp only [Bool.not_true, Bool.not_false])
  obtain rfl := Option.some.inj H
  go_wp2
  go_ret
  exact ⟨ev, dr⟩
 ·(try simp only [Bool.not_true, Bool.not_false])
  obtain rfl := Option.some.inj H
  go_wp2
  go_ret
  exact ⟨ev, dr⟩

end Go.Proofs.YtfhcnnkeokjfpaaDoor.PS1
