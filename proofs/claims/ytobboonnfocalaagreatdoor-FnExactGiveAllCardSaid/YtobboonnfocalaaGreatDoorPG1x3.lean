/- What functions of the program compute, each as a Lean function, and that the run comes to just that. Conditions: none. -/
import Derived.Test.YtobboonnfocalaaGreatDoorTG1
import Derived.Test.YtobboonnfocalaaGreatDoorT2G1
import Derived.Test.YtobboonnfocalaaGreatDoorPG1x0
import Derived.Test.YtobboonnfocalaaGreatDoorPG1x2
namespace Go.Proofs.YtobboonnfocalaaGreatDoor.PG1
open Go.RowKit Go.Proofs.YtobboonnfocalaaGreatDoorW.PrintWords Go.Proofs.YtobboonnfocalaaGreatDoorW.PrintLast Go.Proofs.YtobboonnfocalaaGreatDoorW.PrintMore Go.Proofs.YtobboonnfocalaaGreatDoor.T
attribute [local go_sem] max2_int min2_int max_two min_two max_three min_three max_four min_four   -- for this text's walks alone
set_option linter.unusedVariables false
set_option linter.unusedSimpArgs false

/-! ### spec_GiveAll: function 5 -/
mutual
def spec_GiveAll.j0 : Nat → Bool → List Int → List (S49) → Option (Int × List Int × Bool)
 | 0, _, _, _ => none
 | k + 1, x32, x324000, x324001 => if x32 = true then (some (0, ([] : List Int), false)) else ((spec_Audit.f k x324000).bind fun bt327 => ((spec_l07Row.f k (-1)).bind fun t331 => (spec_GiveAll.l0 k bt327.1 0 2 t331)))
def spec_GiveAll.l0 : Nat → List (S55) → Int → Int → List Int → Option (Int × List Int × Bool)
 | 0, _, _, _, _ => none
 | k + 1, x6, x9, x335000, x335001 => if x9 < 8 then (if x9 < (x6.length : Int) then (if 0 ≤ x9 then (if x9 < (x335001.length : Int) then (spec_GiveAll.l0 k x6 (wrap64 (x9 + 1)) x335000 (x335001.set (x9 : Int).toNat ((rd_T55 x6 x9).f0))) else (none)) else (none)) else (some (x335000, x335001, true))) else (some (x335000, x335001, true))
end
def spec_GiveAll.f (k : Nat) (l0_0 : List Int) (l0_1 : List (S49)) (a1 : Int) : Option (Int × List Int × Bool) := (spec_MachOk.f k l0_0 l0_1).bind fun t325 => (if t325 = true then (if a1 < 0 then (spec_GiveAll.j0 k true l0_0 l0_1) else (if a1 ≥ (l0_1.length : Int) then (spec_GiveAll.j0 k true l0_0 l0_1) else (if 0 ≤ a1 then (if a1 < (l0_1.length : Int) then (spec_GiveAll.j0 k (((rd_T49 l0_1 a1).f0) != 0) l0_0 l0_1) else (none)) else (none)))) else (spec_GiveAll.j0 k true l0_0 l0_1))
theorem spec_GiveAll.mono_l : ∀ k, (∀ y0 y1 y2, LeO (spec_GiveAll.j0 k y0 y1 y2) (spec_GiveAll.j0 (k + 1) y0 y1 y2)) ∧ (∀ y0 y1 y2 y3, LeO (spec_GiveAll.l0 k y0 y1 y2 y3) (spec_GiveAll.l0 (k + 1) y0 y1 y2 y3))
 | 0 => ⟨fun _ _ _ r h => by simp [spec_GiveAll.j0] at h, fun _ _ _ _ r h => by simp [spec_GiveAll.l0] at h⟩
 | k + 1 => by
  obtain ⟨ih0, ih1⟩ := spec_GiveAll.mono_l k
  refine ⟨?_, ?_⟩
  ·intro y0 y1 y2
   unfold spec_GiveAll.j0
   repeat' first
    | (with_reducible first | exact ih0 .. | exact ih1 .. | exact spec_Audit.mono .. | exact spec_MachOk.mono .. | exact spec_l07Row.mono .. | exact LeO.refl _ | exact LeO.none _ | refine LeO.ite ?_ ?_ | refine LeO.bind ?_ (fun _ => ?_))
    | exact LeO.none _ | refine LeO.ite ?_ ?_ | refine LeO.bind ?_ (fun _ => ?_)
  ·intro y0 y1 y2 y3
   unfold spec_GiveAll.l0
   repeat' first
    | (with_reducible first | exact ih0 .. | exact ih1 .. | exact spec_Audit.mono .. | exact spec_MachOk.mono .. | exact spec_l07Row.mono .. | exact LeO.refl _ | exact LeO.none _ | refine LeO.ite ?_ ?_ | refine LeO.bind ?_ (fun _ => ?_))
    | exact LeO.none _ | refine LeO.ite ?_ ?_ | refine LeO.bind ?_ (fun _ => ?_)
theorem spec_GiveAll.mono : ∀ a0 a1 a2 k, LeO (spec_GiveAll.f k a0 a1 a2) (spec_GiveAll.f (k + 1) a0 a1 a2) := by
 intro a0 a1 a2 k
 obtain ⟨ih0, ih1⟩ := spec_GiveAll.mono_l k
 unfold spec_GiveAll.f
 repeat' first
  | (with_reducible first | exact ih0 .. | exact ih1 .. | exact spec_Audit.mono .. | exact spec_MachOk.mono .. | exact spec_l07Row.mono .. | exact LeO.refl _ | exact LeO.none _ | refine LeO.ite ?_ ?_ | refine LeO.bind ?_ (fun _ => ?_))
  | exact LeO.none _ | refine LeO.ite ?_ ?_ | refine LeO.bind ?_ (fun _ => ?_)
def spec_GiveAll.T8 : Bool × List (List Nat × List Nat) := (true, [([], []), ([0], [0]), ([], []), ([], []), ([], []), ([3, 4], [3, 4]), ([5], [5]), ([6], [6]), ([1, 2, 0, 1, 2, 3, 4, 5, 6, 7], [1, 2]), ([8, 7, 0, 1, 2, 3, 4, 5, 6, 7], [7, 8])])
def spec_GiveAll.B8 : List Nat := [0, 1, 0, 0, 0, 24, 56, 120, 255, 511]
theorem spec_GiveAll.tab8 : rtab .any (opsOf Tryz.f5 8) = spec_GiveAll.T8 := kr
theorem spec_GiveAll.bits8 : waitsOk spec_GiveAll.T8.2 spec_GiveAll.B8 = true := kr
set_option maxHeartbeats 8000000 in
set_option maxRecDepth 100000 in
theorem spec_GiveAll.calls (k : Nat) (A0_0 : Option Addr) (c0_0 : Nat) (l0_0 : List Int) (A0_1 : Option Addr) (c0_1 : Nat) (l0_1 : List (S49)) (a1 : Int) (r1 : Int) (r2 : List Int) (r3 : Bool) (w : World) (hr0_0 : Kd.C (Kd.int .u32) w A0_0 l0_0.length l0_0) (hc0_0 : l0_0.length ≤ c0_0) (hr0_1 : Kd.C k49 w A0_1 l0_1.length l0_1) (hc0_1 : l0_1.length ≤ c0_1) (h : spec_GiveAll.f k l0_0 l0_1 a1 = some (r1, r2, r3)) :
  Calls Tryz.prog 5 #[.agg #[.slice A0_0 l0_0.length c0_0, .slice A0_1 l0_1.length c0_1], .int .i64 a1] w fun e w' => ∃ v1_ : Value, e = .returned (.tuple #[.agg #[.int .i64 r1, v1_], .bool r3]) ∧ Kd.R (Kd.int .i64) 3 w' w.heap.size (fun _ => True) v1_ r2 ∧ Below w.heap.size w w' := by
 have hu37 := Tryz.underlying37
 have hu31 := Tryz.underlying31
 have hu34 := Tryz.underlying34
 have HR0_0 := Aside0.mk hr0_0
 have HC0_0 := Aside0.mk hc0_0
 clear hr0_0 hc0_0
 have HR0_1 := Aside0.mk hr0_1
 have HC0_1 := Aside0.mk hc0_1
 clear hr0_1 hc0_1
 have HB := Aside0.mk (Below.refl w.heap.size w)
 unfold spec_GiveAll.f at h
 have H := h
 clear h
 have HC3 := Aside0.mk H
 clear H
 go_enter Tryz.func5, Tryz.ntmps5
 go_upto_region 1 with (first | ((with_reducible refine gate_dst (N := 2) rfl ?_); (try (refine gate_guard (by rfl) ?_; dsimp only)); refine box_event ?hg (N := 2) ?hd (cs := #[.slice A0_0 l0_0.length c0_0, .slice A0_1 l0_1.length c0_1]) (t := 37) ?hr ?_; (case hd => rfl); (case hg => rfl); (case hr => first | (go_simp; done) | (go_simp; rfl)); intro gb323 hg w4 hbox hb; have BK323 := Aside0.mk hbox; have GW323 := bz hg; have GE323 := bz hg; replace HB := hs hb; clear hb hbox hg) | ((with_reducible refine gate_dst (N := 4) rfl ?_); (try (refine gate_guard (by rfl) ?_; dsimp only)); refine box_event ?hg (N := 4) ?hd (cs := #[.int .i64 0, .slice none 0 0]) (t := 31) ?hr ?_; (case hd => rfl); (case hg => rfl); (case hr => first | (go_simp; done) | (go_simp; rfl)); intro gb324 hg w5 hbox hb; have BK324 := Aside0.mk hbox; have GW324 := bz hg; have GE324 := bz hg; have NB323_324 := nl BK323 hg; have NB324_323 := ng BK323 hg; replace BK323 := b_ BK323 hb; replace HB := hs hb; clear hb hbox hg))
 (try refine ap ?_)
 go_cut [32] (fun v32 wc => ∃ (kq : Nat) (x32_2 : Bool), v32 = .bool x32_2 ∧ Aside0 (spec_GiveAll.j0 kq x32_2 l0_0 l0_1 = some (r1, r2, r3)) ∧ Aside0 (kq ≤ k) ∧ Aside0 (wc.heap[gb323]? = some (.cells #[(.slice A0_0 l0_0.length c0_0), (.slice A0_1 l0_1.length c0_1)] 37 (0, 0))) ∧ Aside0 (wc.heap[gb324]? = some (.cells #[.int .i64 0, (.slice none 0 0)] 31 (0, 0))) ∧ Aside0 (Below w.heap.size w wc))
 case first =>
  have H := HC3.out
  clear HC3
  replace H := bn H
  obtain ⟨t325, A6, H⟩ := H
  try dsimp only at H
  replace H := ib H
  rcases H with ⟨rfl, H⟩ | ⟨rfl, H⟩
  ·(try simp only [Bool.not_true, Bool.not_false])
   replace H := ilt H
   rcases H with ⟨c8b0, H⟩ | ⟨c8b0, H⟩
   ·have H' := Aside0.mk H
    clear H
    have hnb9 := NB323_324.out
    have hnc9 := NB324_323.out
    obtain ⟨z10_0, z10_1⟩ := ca2 BK323
    obtain ⟨f10_0, f10_1⟩ := fa2 BK323
    go_wp2_with (first | ((with_reducible refine gf 15 ?_); refine gc Tryz.func15 (some 11) (spec_MachOk.calls _ A0_0 c0_0 _ A0_1 c0_1 _ _ _ (cb HR0_0) HC0_0.out (cb HR0_1) HC0_1.out A6.out) ?_; rintro e w11 ⟨rfl, hb⟩; refine ⟨_, rfl, ?_⟩; replace BK323 := b_ BK323 hb; replace BK324 := b_ BK324 hb; replace HB := hs hb; try clear hb))
    go_meet
    case rel => exact ⟨_, (true), ev, H', ⟨om⟩, ⟨bk BK323⟩, ⟨bk BK324⟩, ⟨bw⟩⟩
   ·replace H := ige H
    rcases H with ⟨c12b0, H⟩ | ⟨c12b0, H⟩
    ·have H' := Aside0.mk H
     clear H
     have hnb13 := NB323_324.out
     have hnc13 := NB324_323.out
     obtain ⟨z14_0, z14_1⟩ := ca2 BK323
     obtain ⟨f14_0, f14_1⟩ := fa2 BK323
     go_wp2_with (first | ((with_reducible refine gf 15 ?_); refine gc Tryz.func15 (some 11) (spec_MachOk.calls _ A0_0 c0_0 _ A0_1 c0_1 _ _ _ (cb HR0_0) HC0_0.out (cb HR0_1) HC0_1.out A6.out) ?_; rintro e w15 ⟨rfl, hb⟩; refine ⟨_, rfl, ?_⟩; replace BK323 := b_ BK323 hb; replace BK324 := b_ BK324 hb; replace HB := hs hb; try clear hb; obtain ⟨z16_0, z16_1⟩ := ca2 BK323; obtain ⟨f16_0, f16_1⟩ := fa2 BK323))
     go_meet
     case rel => exact ⟨_, (true), ev, H', ⟨om⟩, ⟨bk BK323⟩, ⟨bk BK324⟩, ⟨bw⟩⟩
    ·by_cases c17 : 0 ≤ a1
     ·rw [if_pos c17] at H
      have c17b0 : decide (0 ≤ a1) = true := decide_eq_true c17
      clear c17
      by_cases c18 : a1 < (l0_1.length : Int)
      ·rw [if_pos c18] at H
       have c18b0 : decide (a1 < (l0_1.length : Int)) = true := decide_eq_true c18
       clear c18
       have H' := Aside0.mk H
       clear H
       have hnb19 := NB323_324.out
       have hnc19 := NB324_323.out
       obtain ⟨z20_0, z20_1⟩ := ca2 BK323
       obtain ⟨f20_0, f20_1⟩ := fa2 BK323
       go_wp2_with (first | ((with_reducible refine gf 15 ?_); refine gc Tryz.func15 (some 11) (spec_MachOk.calls _ A0_0 c0_0 _ A0_1 c0_1 _ _ _ (cb HR0_0) HC0_0.out (cb HR0_1) HC0_1.out A6.out) ?_; rintro e w21 ⟨rfl, hb⟩; refine ⟨_, rfl, ?_⟩; replace BK323 := b_ BK323 hb; replace BK324 := b_ BK324 hb; replace HB := hs hb; try clear hb; obtain ⟨z22_0, z22_1⟩ := ca2 BK323; obtain ⟨f22_0, f22_1⟩ := fa2 BK323; have p326 : 0 ≤ (a1 : Int) := of_decide_eq_true as_; have q326 : a1 < (l0_1.length : Int) := of_decide_eq_true as_; obtain ⟨ad326, A326_1, c326_1, A326_2, c326_2, e326, hx326_0, hx326_1, hx326_2, hx326_3, hx326_4, hx326_5, hx326_6, hx326_7, hl326_1, hi326_1, hl326_2, hi326_2⟩ := at_T49 HR0_1.out a1 p326 q326; cases e326; replace hx326_0 := cl HB hx326_0; replace hx326_1 := cl HB hx326_1; replace hx326_2 := cl HB hx326_2; replace hx326_3 := cl HB hx326_3; replace hx326_4 := cl HB hx326_4; replace hx326_5 := cl HB hx326_5; replace hx326_6 := cl HB hx326_6; replace hx326_7 := cl HB hx326_7; have HR326_1 := Aside0.mk hi326_1; have HC326_1 := Aside0.mk hl326_1; clear hi326_1 hl326_1; have HR326_2 := Aside0.mk hi326_2; have HC326_2 := Aside0.mk hl326_2; clear hi326_2 hl326_2; replace p326 := eq_true p326; replace q326 := eq_true q326))
       go_meet
       case rel => exact ⟨_, ((((rd_T49 l0_1 a1).f0) != 0)), ev, H', ⟨om⟩, ⟨bk BK323⟩, ⟨bk BK324⟩, ⟨bw⟩⟩
      ·rw [if_neg c18] at H
       exact absurd H (by simp)
     ·rw [if_neg c17] at H
      exact absurd H (by simp)
  ·(try simp only [Bool.not_true, Bool.not_false])
   have H' := Aside0.mk H
   clear H
   have hnb23 := NB323_324.out
   have hnc23 := NB324_323.out
   obtain ⟨z24_0, z24_1⟩ := ca2 BK323
   obtain ⟨f24_0, f24_1⟩ := fa2 BK323
   go_wp2_with (first | ((with_reducible refine gf 15 ?_); refine gc Tryz.func15 (some 11) (spec_MachOk.calls _ A0_0 c0_0 _ A0_1 c0_1 _ _ _ (cb HR0_0) HC0_0.out (cb HR0_1) HC0_1.out A6.out) ?_; rintro e w25 ⟨rfl, hb⟩; refine ⟨_, rfl, ?_⟩; replace BK323 := b_ BK323 hb; replace BK324 := b_ BK324 hb; replace HB := hs hb; try clear hb))
   go_meet
   case rel => exact ⟨_, (true), ev, H', ⟨om⟩, ⟨bk BK323⟩, ⟨bk BK324⟩, ⟨bw⟩⟩
 case rest =>
  clear HC3
  obtain ⟨kq, x32_2, rfl, HA, HJ2, BK323, BK324, HB⟩ := hcut
  cases kq with
  | zero => exact absurd HA.out (by simp [spec_GiveAll.j0])
  | succ kj2 =>
   have H := HA.out
   clear HA
   simp only [spec_GiveAll.j0] at H
   replace H := ib H
   rcases H with ⟨rfl, H⟩ | ⟨rfl, H⟩
   ·simp only [Option.some.injEq, Prod.mk.injEq] at H
    obtain ⟨rfl, rfl, rfl⟩ := H
    have hnb27 := NB324_323.out
    have hnc27 := NB323_324.out
    obtain ⟨z28_0, z28_1⟩ := ca2 BK324
    obtain ⟨f28_0, f28_1⟩ := fa2 BK324
    go_wp2
    refine bodyPost_ret (results_ct rfl _ _ gb324 31 #[.int .i64 0, .slice none 0 0] (0, 0) _ rfl (bp BK324) Tryz.underlying31 rfl kr) rfl ?_
    exact ⟨_, rt, by first | exact Kd.R_nil _ _ _ _ _ | exact Kd.N_nil _ _ _ _ _ | exact Kd.V_nil _ _ _ _ _ | exact Kd.Q_nil _ _ _ _ _ | exact Kd.S_nil _ _ _ _ _, bw⟩
   ·replace H := bn H
    obtain ⟨⟨t327, t330⟩, A29, H⟩ := H
    try dsimp only at H
    replace H := bn H
    obtain ⟨t331, A30, H⟩ := H
    try dsimp only at H
    have H' := Aside0.mk H
    clear H
    have hnb31 := NB323_324.out
    have hnc31 := NB324_323.out
    obtain ⟨z32_0, z32_1⟩ := ca2 BK323
    obtain ⟨f32_0, f32_1⟩ := fa2 BK323
    go_wp2_with (first | ((with_reducible refine gf 16 ?_); refine gc Tryz.func16 (some 37) (spec_Audit.calls _ A0_0 c0_0 _ _ _ _ (cb HR0_0) HC0_0.out A29.out) ?_; rintro e w33 ⟨v328, rfl, ho0, hb⟩; refine ⟨_, rfl, ?_⟩; have HO329 := Aside0.mk (Kd.R_lower ho0 (below_size bw)); replace BK323 := b_ BK323 hb; replace BK324 := b_ BK324 hb; replace HB := hs hb; try clear hb; (try clear ho0)) | ((with_reducible refine gf 17 ?_); refine gc Tryz.func17 (some 40) (spec_l07Row.calls _ _ _ _ A30.out) ?_; rintro e w34 ⟨v332, rfl, ho0, hb⟩; refine ⟨_, rfl, ?_⟩; replace HO329 := Aside0.mk (Kd.R_below (ro HO329) hb); have HO333 := Aside0.mk (Kd.R_lower ho0 (below_size bw)); replace BK323 := b_ BK323 hb; replace BK324 := b_ BK324 hb; replace HB := hs hb; try clear hb; (try clear ho0); obtain ⟨Ao35, co35, eo35⟩ := Kd.R_slice HO333.out; subst eo35) | ((with_reducible refine gate_dst (N := 8) rfl ?_); (try (refine gate_guard (by rfl) ?_; dsimp only)); refine box_event ?hg (N := 8) ?hd (cs := #[.int .i64 0, .slice none 0 0]) (t := 31) ?hr ?_; (case hd => rfl); (case hg => rfl); (case hr => first | (go_simp; done) | (go_simp; rfl)); intro gb334 hg w36 hbox hb; replace HO329 := Aside0.mk (Kd.R_below (ro HO329) hb); replace HO333 := Aside0.mk (Kd.R_below (ro HO333) hb); have BK334 := Aside0.mk hbox; have GW334 := bz hg; have GE334 := bz hg; have NB323_334 := nl BK323 hg; have NB334_323 := ng BK323 hg; replace BK323 := b_ BK323 hb; have NB324_334 := nl BK324 hg; have NB334_324 := ng BK324 hg; replace BK324 := b_ BK324 hb; replace HB := hs hb; clear hb hbox hg; have hnb37 := NB334_323.out; have hnc37 := NB323_334.out; have hnb38 := NB334_324.out; have hnc38 := NB324_334.out; obtain ⟨z39_0, z39_1⟩ := ca2 BK334; obtain ⟨f39_0, f39_1⟩ := fa2 BK334))
    go_loopg [9] kj2 (fun kq v9 w' => ∃ (x9_2 : Int) (x335001_2 : List Int) (u335001 : Value), v9 = .int .i64 x9_2 ∧ Aside0 (spec_GiveAll.l0 kq t327 x9_2 2 x335001_2 = some (r1, r2, r3)) ∧ Aside0 (kq ≤ kj2) ∧ Aside0 (Kd.R k55 55 w' w.heap.size (fun _ => True) v328 t327) ∧ Aside0 (Kd.R (Kd.int .i64) 3 w' w.heap.size (fun _ => True) u335001 x335001_2) ∧ Aside0 (w'.heap[gb323]? = some (.cells #[(.slice A0_0 l0_0.length c0_0), (.slice A0_1 l0_1.length c0_1)] 37 (0, 0))) ∧ Aside0 (w'.heap[gb324]? = some (.cells #[.int .i64 0, (.slice none 0 0)] 31 (0, 0))) ∧ Aside0 (w'.heap[gb334]? = some (.cells #[.int .i64 2, u335001] 31 (0, 0))) ∧ Aside0 (Below w.heap.size w w'))
    case atStart => exact ⟨(0), (t331), (.slice Ao35 t331.length co35), ev, H', ⟨Nat.le_refl _⟩, ⟨by (with_reducible repeat (first | apply Kd.R_alloc | apply Kd.R_drewN | apply Kd.R_drew)); exact Kd.R_mono (Kd.R_far (p := ⟨gb334, 1, none⟩) (Kd.R_far (p := ⟨gb334, 0, none⟩) (Kd.R_types HO329.out BK334.out (by decide)) (fun _ hk => hk.2) (.int .i64 2)) (fun _ hk => hk.2) (.slice Ao35 t331.length co35)) (fun _ hk => trivial)⟩, ⟨by (with_reducible repeat (first | apply Kd.R_alloc | apply Kd.R_drewN | apply Kd.R_drew)); exact Kd.R_mono (Kd.R_far (p := ⟨gb334, 1, none⟩) (Kd.R_far (p := ⟨gb334, 0, none⟩) (Kd.R_types HO333.out BK334.out (by decide)) (fun _ hk => hk.2) (.int .i64 2)) (fun _ hk => hk.2) (.slice Ao35 t331.length co35)) (fun _ hk => trivial)⟩, ⟨bk BK323⟩, ⟨bk BK324⟩, ⟨bp BK334⟩, ⟨bw⟩⟩
    case round =>
     clear H'
     try clear c26
     (try clear z32_0 z32_1)
     (try clear z39_0 z39_1)
     (try clear f32_0 f32_1)
     (try clear f39_0 f39_1)
     obtain ⟨x9_2, x335001_2, u335001, rfl, HA, HK2, HO_6, HO_335001, BK323, BK324, BK334, HB⟩ := hrel
     cases gk with
     | zero => exact absurd HA.out (by simp [spec_GiveAll.l0])
     | succ k2 =>
      have H := HA.out
      clear HA
      simp only [spec_GiveAll.l0] at H
      replace H := ilt H
      rcases H with ⟨c40b0, H⟩ | ⟨c40b0, H⟩
      ·replace H := ilt H
       rcases H with ⟨c41b0, H⟩ | ⟨c41b0, H⟩
       ·by_cases c42 : 0 ≤ x9_2
        ·rw [if_pos c42] at H
         have c42b0 : decide (0 ≤ x9_2) = true := decide_eq_true c42
         clear c42
         by_cases c43 : x9_2 < (x335001_2.length : Int)
         ·rw [if_pos c43] at H
          have c43b0 : decide (x9_2 < (x335001_2.length : Int)) = true := decide_eq_true c43
          clear c43
          obtain ⟨y336, hy336⟩ : ∃ y_ : List Int, y_ = (x335001_2.set (x9_2 : Int).toNat ((rd_T55 t327 x9_2).f0)) := ⟨_, rfl⟩
          rw [← hy336] at H
          try with_reducible replace H := bs H
          have Ny336 := Aside0.mk hy336
          clear hy336
          have H' := Aside0.mk H
          clear H
          obtain ⟨Ao45, co45, eo45⟩ := Kd.R_slice HO_6.out
          subst eo45
          try go_wp2
          replace HO_6 := Aside0.mk (Kd.R_drew HO_6.out)
          replace HO_335001 := Aside0.mk (Kd.R_drew HO_335001.out)
          replace BK323 := bd BK323
          replace BK324 := bd BK324
          replace BK334 := bd BK334
          replace HB := hd HB
          have p335 : 0 ≤ (x9_2 : Int) := of_decide_eq_true as_
          have q335 : x9_2 < (t327.length : Int) := of_decide_eq_true as_
          obtain ⟨ad335, e335, hx335_0, hx335_1⟩ := at_T55 (Kd.R_reads' HO_6.out).2.2 x9_2 p335 q335
          cases e335
          replace p335 := eq_true p335
          replace q335 := eq_true q335
          have p44 : 0 ≤ (x9_2 : Int) := of_decide_eq_true as_
          have q44 : (x9_2 : Int) < ((x335001_2.length : Int) : Int) := of_decide_eq_true as_
          obtain ⟨go44, co44, eo44, gb44, gl44, cl44, HG44⟩ := Kd.R_form HO_335001.out (by omega)
          (first | cases eo44 | (injection eo44 with ea_ en_ ec_; (first | subst ea_ | (injection ea_ with ea_; subst ea_)); subst ec_; clear en_))
          have GB44 := Aside0.mk gb44
          have GG44 := Aside0.mk HG44
          clear gb44 gl44 HG44
          obtain ⟨hx44_0, hf44_0⟩ := Kd.R_celln 0 HO_335001.out (x9_2 : Int) p44 q44
          replace p44 := eq_true p44
          replace q44 := eq_true q44
          have HP47 := Kd.R_putn HO_335001.out (x9_2 : Int) ((rd_T55 t327 x9_2).f0)
          rw [← Ny336.out] at HP47
          have HQ47 := Aside0.mk HP47
          clear HP47
          refine st 10 (fun w' => CA w' gb334 0 [.int .i64 2, .slice (some ⟨go44, 0, none⟩) x335001_2.length co44] ∧ w'.cell? (ad335.add ((x9_2).toNat * 2)) = some (.int .i64 ((rd_T55 t327 x9_2).f0)) ∧ w'.cell? ⟨(ad335.add ((x9_2).toNat * 2)).block, (ad335.add ((x9_2).toNat * 2)).off + 1, none⟩ = some (.int .i64 ((rd_T55 t327 x9_2).f1))) [9] ⟨cx BK334, hx335_0, hx335_1⟩ spec_GiveAll.tab8 spec_GiveAll.bits8 ?_; intro hHeld HT_ HW_
          generalize wr.drew = w46 at HO_6 HO_335001 BK323 BK324 BK334 HB GG44 HQ47 hf44_0 hx335_0 hx335_1 hx44_0 hHeld ⊢
          refine pu 0 52 (bl 10 1) ?_
          refine pu 2 54 (bl 10 5) ?_
          refine pu 3 55 (bl 10 13) ?_
          refine pu 4 56 (bl 10 29) ?_
          refine pu 5 57 (bl 10 61) ?_
          refine pu 6 58 (bl 10 125) ?_
          refine tk 1 53 (bl 10 127) ?_
          refine tk 7 59 (bl 10 255) ?_
          refine pu 8 60 (bl 10 511) ?_
          refine last_ (i := 9) (N := none) (bl 10 1023) rfl rfl (one_of HT_.out kr) (by decide) (fun K hK => ?_)
          refine skip_ (w1 := ?_) (by rfl) rfl ?_ ?_
          rotate_left
          ·go_simp
           rfl
          refine hK.out _ _ ?_
          clear hK K
          refine dn ?_ _
          try go_wp2
          go_roundg k2
          case measure => have := HJ2.out; have := HK2.out; omega
          case rel => exact ⟨(wrap64 (x9_2 + 1)), (y336), (.slice (some ⟨go44, 0, none⟩) x335001_2.length co44), ev, H', ⟨by have := HJ2.out; have := HK2.out; omega⟩, ⟨by (with_reducible repeat (first | apply Kd.R_alloc | apply Kd.R_drewN | apply Kd.R_drew)); exact Kd.R_mono (Kd.R_far (p := ⟨go44, (x9_2 : Int).toNat, none⟩) (Kd.R_types HO_6.out GG44.out (by decide)) (fun _ hk => hk.2) (.int .i64 ((rd_T55 t327 x9_2).f0))) (fun _ hk => trivial)⟩, ⟨ro HQ47⟩, ⟨by (with_reducible repeat (first | refine blk_drewN ?_ _ | refine blk_drew ?_ | refine blk_alloc ?_ _)); refine blk_far ?_ (by have h_ := Kd.R_ne HO_335001.out BK323.out (by decide); intro e_; exact h_ (by rw [e_]; rfl)) _; (with_reducible repeat (first | refine blk_drewN ?_ _ | refine blk_drew ?_ | refine blk_alloc ?_ _)); exact BK323.out⟩, ⟨by (with_reducible repeat (first | refine blk_drewN ?_ _ | refine blk_drew ?_ | refine blk_alloc ?_ _)); refine blk_far ?_ (by have h_ := Kd.R_ne HO_335001.out BK324.out (by decide); intro e_; exact h_ (by rw [e_]; rfl)) _; (with_reducible repeat (first | refine blk_drewN ?_ _ | refine blk_drew ?_ | refine blk_alloc ?_ _)); exact BK324.out⟩, ⟨by (with_reducible repeat (first | refine blk_drewN ?_ _ | refine blk_drew ?_ | refine blk_alloc ?_ _)); refine blk_far ?_ (by have h_ := Kd.R_ne HO_335001.out BK334.out (by decide); intro e_; exact h_ (by rw [e_]; rfl)) _; (with_reducible repeat (first | refine blk_drewN ?_ _ | refine blk_drew ?_ | refine blk_alloc ?_ _)); exact BK334.out⟩, ⟨bw⟩⟩
         ·rw [if_neg c43] at H
          exact absurd H (by simp)
        ·rw [if_neg c42] at H
         exact absurd H (by simp)
       ·simp only [Option.some.injEq, Prod.mk.injEq] at H
        obtain ⟨rfl, rfl, rfl⟩ := H
        obtain ⟨Ao48, co48, eo48⟩ := Kd.R_slice HO_6.out
        subst eo48
        have hnb49 := NB334_323.out
        have hnc49 := NB323_334.out
        have hnb50 := NB334_324.out
        have hnc50 := NB324_334.out
        obtain ⟨z51_0, z51_1⟩ := ca2 BK334
        obtain ⟨f51_0, f51_1⟩ := fa2 BK334
        have hnb52 := NB324_323.out
        have hnc52 := NB323_324.out
        obtain ⟨z53_0, z53_1⟩ := ca2 BK324
        obtain ⟨f53_0, f53_1⟩ := fa2 BK324
        obtain ⟨Ao54, co54, eo54⟩ := Kd.R_slice HO_335001.out
        subst eo54
        go_wp2
        refine bodyPost_ret (results_ct rfl _ _ gb324 31 #[.int .i64 2, .slice Ao54 x335001_2.length co54] (0, 0) _ rfl (bp BK324) Tryz.underlying31 rfl kr) rfl ?_
        exact ⟨_, rt, by (with_reducible repeat (first | apply Kd.R_alloc | apply Kd.R_drewN | apply Kd.R_drew)); exact Kd.R_mono (Kd.R_far (p := ⟨gb324, 1, none⟩) (Kd.R_far (p := ⟨gb324, 0, none⟩) (Kd.R_types HO_335001.out BK324.out (by decide)) (fun _ hk => hk.2) (.int .i64 2)) (fun _ hk => hk.2) (.slice Ao54 x335001_2.length co54)) (fun _ hk => trivial), bw⟩
      ·simp only [Option.some.injEq, Prod.mk.injEq] at H
       obtain ⟨rfl, rfl, rfl⟩ := H
       have hnb55 := NB334_323.out
       have hnc55 := NB323_334.out
       have hnb56 := NB334_324.out
       have hnc56 := NB324_334.out
       obtain ⟨z57_0, z57_1⟩ := ca2 BK334
       obtain ⟨f57_0, f57_1⟩ := fa2 BK334
       have hnb58 := NB324_323.out
       have hnc58 := NB323_324.out
       obtain ⟨z59_0, z59_1⟩ := ca2 BK324
       obtain ⟨f59_0, f59_1⟩ := fa2 BK324
       obtain ⟨Ao60, co60, eo60⟩ := Kd.R_slice HO_335001.out
       subst eo60
       go_wp2
       refine bodyPost_ret (results_ct rfl _ _ gb324 31 #[.int .i64 2, .slice Ao60 x335001_2.length co60] (0, 0) _ rfl (bp BK324) Tryz.underlying31 rfl kr) rfl ?_
       exact ⟨_, rt, by (with_reducible repeat (first | apply Kd.R_alloc | apply Kd.R_drewN | apply Kd.R_drew)); exact Kd.R_mono (Kd.R_far (p := ⟨gb324, 1, none⟩) (Kd.R_far (p := ⟨gb324, 0, none⟩) (Kd.R_types HO_335001.out BK324.out (by decide)) (fun _ hk => hk.2) (.int .i64 2)) (fun _ hk => hk.2) (.slice Ao60 x335001_2.length co60)) (fun _ hk => trivial), bw⟩

/-! ### laws_toUint32S: function 39 -/
def laws_toUint32S.l0 : Nat → List Int → List Int → Int → Option (List Int)
 | 0, _, _, _ => none
 | k + 1, x0, x3, x4 => if x4 < (x0.length : Int) then (if 0 ≤ x4 then (if x4 < (x3.length : Int) then (laws_toUint32S.l0 k x0 (x3.set (x4 : Int).toNat (rd x0 x4)) (wrap64 (x4 + 1))) else (none)) else (none)) else (some x3)
def laws_toUint32S.f (k : Nat) (l0 : List Int) : Option (List Int) := if 0 ≤ (l0.length : Int) then (if ((l0.length : Int) : Int).toNat ≤ 70368744177664 then (laws_toUint32S.l0 k l0 (List.replicate ((l0.length : Int) : Int).toNat 0) 0) else (none)) else (none)
theorem laws_toUint32S.mono_l : ∀ k, (∀ y0 y1 y2, LeO (laws_toUint32S.l0 k y0 y1 y2) (laws_toUint32S.l0 (k + 1) y0 y1 y2))
 | 0 => fun _ _ _ r h => by simp [laws_toUint32S.l0] at h
 | k + 1 => by
  have ih0 := laws_toUint32S.mono_l k
  ·intro y0 y1 y2
   unfold laws_toUint32S.l0
   repeat' first
    | (with_reducible first | exact ih0 .. | exact LeO.refl _ | exact LeO.none _ | refine LeO.ite ?_ ?_ | refine LeO.bind ?_ (fun _ => ?_))
    | exact LeO.none _ | refine LeO.ite ?_ ?_ | refine LeO.bind ?_ (fun _ => ?_)
theorem laws_toUint32S.mono : ∀ a0 k, LeO (laws_toUint32S.f k a0) (laws_toUint32S.f (k + 1) a0) := by
 intro a0 k
 have ih0 := laws_toUint32S.mono_l k
 unfold laws_toUint32S.f
 repeat' first
  | (with_reducible first | exact ih0 .. | exact LeO.refl _ | exact LeO.none _ | refine LeO.ite ?_ ?_ | refine LeO.bind ?_ (fun _ => ?_))
  | exact LeO.none _ | refine LeO.ite ?_ ?_ | refine LeO.bind ?_ (fun _ => ?_)
set_option maxHeartbeats 8000000 in
set_option maxRecDepth 100000 in
theorem laws_toUint32S.calls (k : Nat) (A0 : Option Addr) (c0 : Nat) (l0 : List Int) (r : List Int) (w : World) (hr0 : Kd.C (Kd.int .u32) w A0 l0.length l0) (hc0 : l0.length ≤ c0) (h : laws_toUint32S.f k l0 = some r) :
  Calls Tryz.prog 39 #[.slice A0 l0.length c0] w fun e w' => ∃ v0_ : Value, e = .returned (v0_) ∧ Kd.R (Kd.int .u32) 47 w' w.heap.size (fun _ => True) v0_ r ∧ Below w.heap.size w w' := by
 have HR0 := Aside0.mk hr0
 have HC0 := Aside0.mk hc0
 clear hr0 hc0
 have HB := Aside0.mk (Below.refl w.heap.size w)
 unfold laws_toUint32S.f at h
 have H := h
 clear h
 by_cases c2 : 0 ≤ (l0.length : Int)
 ·rw [if_pos c2] at H
  have c2b0 := eq_true c2
  have c2b1 : decide (0 ≤ (l0.length : Int)) = true := decide_eq_true c2
  clear c2
  by_cases c3 : ((l0.length : Int) : Int).toNat ≤ 70368744177664
  ·rw [if_pos c3] at H
   have c3b0 := eq_true c3
   have c3b1 : decide (((l0.length : Int) : Int).toNat ≤ 70368744177664) = true := decide_eq_true c3
   clear c3
   obtain ⟨y337, hy337⟩ : ∃ y_ : List Int, y_ = (List.replicate ((l0.length : Int) : Int).toNat 0) := ⟨_, rfl⟩
   rw [← hy337] at H
   try with_reducible replace H := bs H
   have Ny337 := Aside0.mk hy337
   clear hy337
   have H' := Aside0.mk H
   clear H
   go_enter Tryz.func39, Tryz.ntmps39
   go_wp2_with (first | ((with_reducible refine gate_dst (N := 7) rfl ?_); refine Kd.R_make (Kd.int .u32) _ 47 rfl (N := 7) rfl 22 _ _ rfl (l0.length : Int) rfl rfl Tryz.underlying22 (.int .u32 0) 4 info47 rfl (by decide) (by omega) 0 (ok := fun _ => True) (okp := fun _ => True) rfl (fun _ hk => hk) trivial (of_decide_eq_true as_) (Nat.le_trans (Nat.mul_le_mul_right _ (of_decide_eq_true as_ : (l0.length : Int).toNat ≤ 70368744177664)) (by omega)) (Below.refl _ _) (Nat.le_refl _) ?_; intro v338 w4 ho5 hb hg_ hnew_; clear hg_ hnew_; (first | rw [← Ny337.out] at ho5 | (simp only [Int.reduceToNat] at ho5; rw [← Ny337.out] at ho5)); have HO339 := Aside0.mk (Kd.R_lower ho5 (below_size bw)); replace HB := hs hb; clear hb ho5))
   go_loopg [4] k (fun kq v4 w' => ∃ (x3_1 : List Int) (x4_1 : Int), v4 = .int .i64 x4_1 ∧ Aside0 (laws_toUint32S.l0 kq l0 x3_1 x4_1 = some r) ∧ Aside0 (kq ≤ k) ∧ Aside0 (Kd.R (Kd.int .u32) 47 w' w.heap.size (fun _ => True) v338 x3_1) ∧ Aside0 (Below w.heap.size w w'))
   case atStart => exact ⟨(y337), (0), ev, H', ⟨Nat.le_refl _⟩, ⟨ro HO339⟩, ⟨bw⟩⟩
   case round =>
    clear H'
    try clear c2
    try clear c2b0
    try clear c2b1
    try clear c3
    try clear c3b0
    try clear c3b1
    obtain ⟨x3_1, x4_1, rfl, HA, HK1, HO_3, HB⟩ := hrel
    cases gk with
    | zero => exact absurd HA.out (by simp [laws_toUint32S.l0])
    | succ k1 =>
     have H := HA.out
     clear HA
     simp only [laws_toUint32S.l0] at H
     replace H := ilt H
     rcases H with ⟨c6b0, H⟩ | ⟨c6b0, H⟩
     ·by_cases c7 : 0 ≤ x4_1
      ·rw [if_pos c7] at H
       have c7b0 : decide (0 ≤ x4_1) = true := decide_eq_true c7
       clear c7
       by_cases c8 : x4_1 < (x3_1.length : Int)
       ·rw [if_pos c8] at H
        have c8b0 : decide (x4_1 < (x3_1.length : Int)) = true := decide_eq_true c8
        clear c8
        obtain ⟨y341, hy341⟩ : ∃ y_ : List Int, y_ = (x3_1.set (x4_1 : Int).toNat (rd l0 x4_1)) := ⟨_, rfl⟩
        rw [← hy341] at H
        try with_reducible replace H := bs H
        have Ny341 := Aside0.mk hy341
        clear hy341
        have H' := Aside0.mk H
        clear H
        have p340 : 0 ≤ (x4_1 : Int) := of_decide_eq_true as_
        have q340 : x4_1 < (l0.length : Int) := of_decide_eq_true as_
        obtain ⟨ad340, e340, hx340_0⟩ := Kd.at_int HR0.out x4_1 p340 q340
        cases e340
        replace hx340_0 := cl HB hx340_0
        replace p340 := eq_true p340
        replace q340 := eq_true q340
        have p9 : 0 ≤ (x4_1 : Int) := of_decide_eq_true as_
        have q9 : (x4_1 : Int) < ((x3_1.length : Int) : Int) := of_decide_eq_true as_
        obtain ⟨go9, co9, eo9, gb9, gl9, cl9, HG9⟩ := Kd.R_form HO_3.out (by omega)
        (first | cases eo9 | (injection eo9 with ea_ en_ ec_; (first | subst ea_ | (injection ea_ with ea_; subst ea_)); subst ec_; clear en_))
        have GB9 := Aside0.mk gb9
        have GG9 := Aside0.mk HG9
        clear gb9 gl9 HG9
        obtain ⟨hx9_0, hf9_0⟩ := Kd.R_celln 0 HO_3.out (x4_1 : Int) p9 q9
        replace p9 := eq_true p9
        replace q9 := eq_true q9
        have HP10 := Kd.R_putg HO_3.out (x4_1 : Int) (rd l0 x4_1)
        go_wp2_with (first | ((with_reducible refine gate_store (t := 47) (p := 20) rfl ?_); refine store_event (t := 47) (p := 20) (v := ?vo_w11) (w1 := (wr.setCell ⟨go9, (x4_1 : Int).toNat, none⟩ (.int .u32 (rd l0 x4_1)))) ?hg ?ho ?hn ?hr ?_; (case ho => rfl); (case hg => rfl); (case hn => rfl); (case hr => first | (go_simp; done) | (go_simp; rfl)); intro w11 hw; have hg : wr.grownBy w11 (some go9) := (by rw [hw]; exact HP10.2); have hp_ : Kd.R (Kd.int .u32) 47 w11 w.heap.size (fun _ => True) (.slice (some ⟨go9, 0, none⟩) x3_1.length co9) y341 := (by rw [hw, Ny341.out]; exact HP10.1); clear HP10; replace HO_3 := Aside0.mk (hp_); replace HB := Aside0.mk ((by rw [hw]; exact below_set (HB.out) GB9.out : Below w.heap.size w w11)); clear hg hw hp_))
        go_roundg k1
        case measure => have := HK1.out; omega
        case rel => exact ⟨(y341), (wrap64 (x4_1 + 1)), ev, H', ⟨oa HK1⟩, ⟨ro HO_3⟩, ⟨bw⟩⟩
       ·rw [if_neg c8] at H
        exact absurd H (by simp)
      ·rw [if_neg c7] at H
       exact absurd H (by simp)
     ·obtain rfl := Option.some.inj H
      go_wp2
      go_ret
      exact ⟨_, rt, ro HO_3, bw⟩
  ·rw [if_neg c3] at H
   exact absurd H (by simp)
 ·rw [if_neg c2] at H
  exact absurd H (by simp)

/-! ### laws_toMem: function 18 -/
def laws_toMem.f (k : Nat) (l0_0 : List Int) : Option (List Int) := (laws_toUint32S.f k l0_0).bind fun t345 => (some t345)
theorem laws_toMem.mono : ∀ a0 k, LeO (laws_toMem.f k a0) (laws_toMem.f (k + 1) a0) := by
 intro a0 k
 unfold laws_toMem.f
 repeat' first
  | (with_reducible first | exact laws_toUint32S.mono .. | exact LeO.refl _ | exact LeO.none _ | refine LeO.ite ?_ ?_ | refine LeO.bind ?_ (fun _ => ?_))
  | exact LeO.none _ | refine LeO.ite ?_ ?_ | refine LeO.bind ?_ (fun _ => ?_)
set_option maxHeartbeats 8000000 in
set_option maxRecDepth 100000 in
theorem laws_toMem.calls (k : Nat) (A0_0 : Option Addr) (c0_0 : Nat) (l0_0 : List Int) (r : List Int) (w : World) (hr0_0 : Kd.C (Kd.int .u32) w A0_0 l0_0.length l0_0) (hc0_0 : l0_0.length ≤ c0_0) (h : laws_toMem.f k l0_0 = some r) :
  Calls Tryz.prog 18 #[.agg #[.slice A0_0 l0_0.length c0_0]] w fun e w' => ∃ v0_ : Value, e = .returned (.agg #[v0_]) ∧ Kd.R (Kd.int .u32) 47 w' w.heap.size (fun _ => True) v0_ r ∧ Below w.heap.size w w' := by
 have hu24 := Tryz.underlying24
 have hu34 := Tryz.underlying34
 have HR0_0 := Aside0.mk hr0_0
 have HC0_0 := Aside0.mk hc0_0
 clear hr0_0 hc0_0
 have HB := Aside0.mk (Below.refl w.heap.size w)
 unfold laws_toMem.f at h
 have H := h
 clear h
 replace H := bn H
 obtain ⟨t345, A2, H⟩ := H
 try dsimp only at H
 obtain rfl := Option.some.inj H
 go_enter Tryz.func18, Tryz.ntmps18
 go_wp2_with (first | ((with_reducible refine gd 1 ?_); refine bx 1 24 #[.slice A0_0 l0_0.length c0_0] ?_; clear HB; intro gb342 w3 hg BK342 hb GE342 HB; clear hb hg) | ((with_reducible refine gd 2 ?_); refine bx 2 34 #[.slice none 0 0] ?_; clear HB; intro gb343 w4 hg BK343 hb GE343 HB; have NB342_343 := nl BK342 hg; have NB343_342 := ng BK342 hg; replace BK342 := b_ BK342 hb; clear hb hg) | ((with_reducible refine gd 3 ?_); refine bx 3 34 #[.slice none 0 0] ?_; clear HB; intro gb344 w5 hg BK344 hb GE344 HB; have NB342_344 := nl BK342 hg; have NB344_342 := ng BK342 hg; replace BK342 := b_ BK342 hb; have NB343_344 := nl BK343 hg; have NB344_343 := ng BK343 hg; replace BK343 := b_ BK343 hb; clear hb hg; have hnb6 := NB342_343.out; have hnc6 := NB343_342.out; have hnb7 := NB342_344.out; have hnc7 := NB344_342.out; have z8_0 := ca1 BK342; have f8_0 := blk_frozen BK342.out 0) | ((with_reducible refine gf 39 ?_); refine gc Tryz.func39 (some 6) (laws_toUint32S.calls _ A0_0 c0_0 _ _ _ (cb HR0_0) HC0_0.out A2.out) ?_; rintro e w9 ⟨v346, rfl, ho0, hb⟩; refine ⟨_, rfl, ?_⟩; have HO347 := Aside0.mk (Kd.R_lower ho0 (below_size bw)); replace BK342 := b_ BK342 hb; replace BK343 := b_ BK343 hb; replace BK344 := b_ BK344 hb; replace HB := hs hb; try clear hb; (try clear ho0); obtain ⟨Ao10, co10, eo10⟩ := Kd.R_slice HO347.out; subst eo10; have hnb11 := NB344_343.out; have hnc11 := NB343_344.out; have z12_0 := ca1 BK344; have f12_0 := blk_frozen BK344.out 0; have z13_0 := ca1 BK343; have f13_0 := blk_frozen BK343.out 0))
 refine bodyPost_ret (results_cell_row rfl _ _ gb343 34 #[.slice Ao10 t345.length co10] (0, 0) _ rfl (bp BK343) Tryz.underlying34 rfl kr) rfl ?_
 exact ⟨_, rt, by (with_reducible repeat (first | apply Kd.R_alloc | apply Kd.R_drewN | apply Kd.R_drew)); exact Kd.R_mono (Kd.R_far (p := ⟨gb343, 0, none⟩) (Kd.R_far (p := ⟨gb344, 0, none⟩) (Kd.R_types (Kd.R_types HO347.out BK344.out (by decide)) BK343.out (by decide)) (fun _ hk => hk.1.2) (.slice Ao10 t345.length co10)) (fun _ hk => hk.2) (.slice Ao10 t345.length co10)) (fun _ hk => trivial), bw⟩

/-! ### laws_toIntS: function 68 -/
def laws_toIntS.l0 : Nat → List Int → List Int → Int → Option (List Int)
 | 0, _, _, _ => none
 | k + 1, x0, x3, x4 => if x4 < (x0.length : Int) then (if 0 ≤ x4 then (if x4 < (x3.length : Int) then (laws_toIntS.l0 k x0 (x3.set (x4 : Int).toNat (rd x0 x4)) (wrap64 (x4 + 1))) else (none)) else (none)) else (some x3)
def laws_toIntS.f (k : Nat) (l0 : List Int) : Option (List Int) := if 0 ≤ (l0.length : Int) then (if ((l0.length : Int) : Int).toNat ≤ 35184372088832 then (laws_toIntS.l0 k l0 (List.replicate ((l0.length : Int) : Int).toNat 0) 0) else (none)) else (none)
theorem laws_toIntS.mono_l : ∀ k, (∀ y0 y1 y2, LeO (laws_toIntS.l0 k y0 y1 y2) (laws_toIntS.l0 (k + 1) y0 y1 y2))
 | 0 => fun _ _ _ r h => by simp [laws_toIntS.l0] at h
 | k + 1 => by
  have ih0 := laws_toIntS.mono_l k
  ·intro y0 y1 y2
   unfold laws_toIntS.l0
   repeat' first
    | (with_reducible first | exact ih0 .. | exact LeO.refl _ | exact LeO.none _ | refine LeO.ite ?_ ?_ | refine LeO.bind ?_ (fun _ => ?_))
    | exact LeO.none _ | refine LeO.ite ?_ ?_ | refine LeO.bind ?_ (fun _ => ?_)
theorem laws_toIntS.mono : ∀ a0 k, LeO (laws_toIntS.f k a0) (laws_toIntS.f (k + 1) a0) := by
 intro a0 k
 have ih0 := laws_toIntS.mono_l k
 unfold laws_toIntS.f
 repeat' first
  | (with_reducible first | exact ih0 .. | exact LeO.refl _ | exact LeO.none _ | refine LeO.ite ?_ ?_ | refine LeO.bind ?_ (fun _ => ?_))
  | exact LeO.none _ | refine LeO.ite ?_ ?_ | refine LeO.bind ?_ (fun _ => ?_)
set_option maxHeartbeats 8000000 in
set_option maxRecDepth 100000 in
theorem laws_toIntS.calls (k : Nat) (A0 : Option Addr) (c0 : Nat) (l0 : List Int) (r : List Int) (w : World) (hr0 : Kd.C (Kd.int .i64) w A0 l0.length l0) (hc0 : l0.length ≤ c0) (h : laws_toIntS.f k l0 = some r) :
  Calls Tryz.prog 68 #[.slice A0 l0.length c0] w fun e w' => ∃ v0_ : Value, e = .returned (v0_) ∧ Kd.R (Kd.int .i64) 3 w' w.heap.size (fun _ => True) v0_ r ∧ Below w.heap.size w w' := by
 have HR0 := Aside0.mk hr0
 have HC0 := Aside0.mk hc0
 clear hr0 hc0
 have HB := Aside0.mk (Below.refl w.heap.size w)
 unfold laws_toIntS.f at h
 have H := h
 clear h
 by_cases c2 : 0 ≤ (l0.length : Int)
 ·rw [if_pos c2] at H
  have c2b0 := eq_true c2
  have c2b1 : decide (0 ≤ (l0.length : Int)) = true := decide_eq_true c2
  clear c2
  by_cases c3 : ((l0.length : Int) : Int).toNat ≤ 35184372088832
  ·rw [if_pos c3] at H
   have c3b0 := eq_true c3
   have c3b1 : decide (((l0.length : Int) : Int).toNat ≤ 35184372088832) = true := decide_eq_true c3
   clear c3
   obtain ⟨y348, hy348⟩ : ∃ y_ : List Int, y_ = (List.replicate ((l0.length : Int) : Int).toNat 0) := ⟨_, rfl⟩
   rw [← hy348] at H
   try with_reducible replace H := bs H
   have Ny348 := Aside0.mk hy348
   clear hy348
   have H' := Aside0.mk H
   clear H
   go_enter Tryz.func68, Tryz.ntmps68
   go_wp2_with (first | ((with_reducible refine gate_dst (N := 7) rfl ?_); refine Kd.R_make (Kd.int .i64) _ 3 rfl (N := 7) rfl 29 _ _ rfl (l0.length : Int) rfl rfl Tryz.underlying29 (.int .i64 0) 8 info3 rfl (by decide) (by omega) 0 (ok := fun _ => True) (okp := fun _ => True) rfl (fun _ hk => hk) trivial (of_decide_eq_true as_) (Nat.le_trans (Nat.mul_le_mul_right _ (of_decide_eq_true as_ : (l0.length : Int).toNat ≤ 35184372088832)) (by omega)) (Below.refl _ _) (Nat.le_refl _) ?_; intro v349 w4 ho5 hb hg_ hnew_; clear hg_ hnew_; (first | rw [← Ny348.out] at ho5 | (simp only [Int.reduceToNat] at ho5; rw [← Ny348.out] at ho5)); have HO350 := Aside0.mk (Kd.R_lower ho5 (below_size bw)); replace HB := hs hb; clear hb ho5))
   go_loopg [4] k (fun kq v4 w' => ∃ (x3_1 : List Int) (x4_1 : Int), v4 = .int .i64 x4_1 ∧ Aside0 (laws_toIntS.l0 kq l0 x3_1 x4_1 = some r) ∧ Aside0 (kq ≤ k) ∧ Aside0 (Kd.R (Kd.int .i64) 3 w' w.heap.size (fun _ => True) v349 x3_1) ∧ Aside0 (Below w.heap.size w w'))
   case atStart => exact ⟨(y348), (0), ev, H', ⟨Nat.le_refl _⟩, ⟨ro HO350⟩, ⟨bw⟩⟩
   case round =>
    clear H'
    try clear c2
    try clear c2b0
    try clear c2b1
    try clear c3
    try clear c3b0
    try clear c3b1
    obtain ⟨x3_1, x4_1, rfl, HA, HK1, HO_3, HB⟩ := hrel
    cases gk with
    | zero => exact absurd HA.out (by simp [laws_toIntS.l0])
    | succ k1 =>
     have H := HA.out
     clear HA
     simp only [laws_toIntS.l0] at H
     replace H := ilt H
     rcases H with ⟨c6b0, H⟩ | ⟨c6b0, H⟩
     ·by_cases c7 : 0 ≤ x4_1
      ·rw [if_pos c7] at H
       have c7b0 : decide (0 ≤ x4_1) = true := decide_eq_true c7
       clear c7
       by_cases c8 : x4_1 < (x3_1.length : Int)
       ·rw [if_pos c8] at H
        have c8b0 : decide (x4_1 < (x3_1.length : Int)) = true := decide_eq_true c8
        clear c8
        obtain ⟨y352, hy352⟩ : ∃ y_ : List Int, y_ = (x3_1.set (x4_1 : Int).toNat (rd l0 x4_1)) := ⟨_, rfl⟩
        rw [← hy352] at H
        try with_reducible replace H := bs H
        have Ny352 := Aside0.mk hy352
        clear hy352
        have H' := Aside0.mk H
        clear H
        have p351 : 0 ≤ (x4_1 : Int) := of_decide_eq_true as_
        have q351 : x4_1 < (l0.length : Int) := of_decide_eq_true as_
        obtain ⟨ad351, e351, hx351_0⟩ := Kd.at_int HR0.out x4_1 p351 q351
        cases e351
        replace hx351_0 := cl HB hx351_0
        replace p351 := eq_true p351
        replace q351 := eq_true q351
        have p9 : 0 ≤ (x4_1 : Int) := of_decide_eq_true as_
        have q9 : (x4_1 : Int) < ((x3_1.length : Int) : Int) := of_decide_eq_true as_
        obtain ⟨go9, co9, eo9, gb9, gl9, cl9, HG9⟩ := Kd.R_form HO_3.out (by omega)
        (first | cases eo9 | (injection eo9 with ea_ en_ ec_; (first | subst ea_ | (injection ea_ with ea_; subst ea_)); subst ec_; clear en_))
        have GB9 := Aside0.mk gb9
        have GG9 := Aside0.mk HG9
        clear gb9 gl9 HG9
        obtain ⟨hx9_0, hf9_0⟩ := Kd.R_celln 0 HO_3.out (x4_1 : Int) p9 q9
        replace p9 := eq_true p9
        replace q9 := eq_true q9
        have HP10 := Kd.R_putg HO_3.out (x4_1 : Int) (rd l0 x4_1)
        go_wp2_with (first | ((with_reducible refine gate_store (t := 3) (p := 20) rfl ?_); refine store_event (t := 3) (p := 20) (v := ?vo_w11) (w1 := (wr.setCell ⟨go9, (x4_1 : Int).toNat, none⟩ (.int .i64 (rd l0 x4_1)))) ?hg ?ho ?hn ?hr ?_; (case ho => rfl); (case hg => rfl); (case hn => rfl); (case hr => first | (go_simp; done) | (go_simp; rfl)); intro w11 hw; have hg : wr.grownBy w11 (some go9) := (by rw [hw]; exact HP10.2); have hp_ : Kd.R (Kd.int .i64) 3 w11 w.heap.size (fun _ => True) (.slice (some ⟨go9, 0, none⟩) x3_1.length co9) y352 := (by rw [hw, Ny352.out]; exact HP10.1); clear HP10; replace HO_3 := Aside0.mk (hp_); replace HB := Aside0.mk ((by rw [hw]; exact below_set (HB.out) GB9.out : Below w.heap.size w w11)); clear hg hw hp_))
        go_roundg k1
        case measure => have := HK1.out; omega
        case rel => exact ⟨(y352), (wrap64 (x4_1 + 1)), ev, H', ⟨oa HK1⟩, ⟨ro HO_3⟩, ⟨bw⟩⟩
       ·rw [if_neg c8] at H
        exact absurd H (by simp)
      ·rw [if_neg c7] at H
       exact absurd H (by simp)
     ·obtain rfl := Option.some.inj H
      go_wp2
      go_ret
      exact ⟨_, rt, ro HO_3, bw⟩
  ·rw [if_neg c3] at H
   exact absurd H (by simp)
 ·rw [if_neg c2] at H
  exact absurd H (by simp)

end Go.Proofs.YtobboonnfocalaaGreatDoor.PG1
namespace Go.Proofs.YtobboonnfocalaaGreatDoor.PG1
open Go.RowKit Go.Proofs.YtobboonnfocalaaGreatDoorW.PrintWords Go.Proofs.YtobboonnfocalaaGreatDoorW.PrintLast Go.Proofs.YtobboonnfocalaaGreatDoorW.PrintMore Go.Proofs.YtobboonnfocalaaGreatDoor.T
attribute [local go_sem] max2_int min2_int max_two min_two max_three min_three max_four min_four   -- for this text's walks alone
set_option linter.unusedVariables false
set_option linter.unusedSimpArgs false

theorem eqA75 (d : Nat) (w : World) (x0 y0 : Int) (x1 y1 : Int) (x2 y2 : Int) (x3 y3 : Int) :
  (Op.equalIn (d + 2) 75 (.agg #[.int .i64 x0, .int .i64 x1, .int .u32 x2, .int .i64 x3]) (.agg #[.int .i64 y0, .int .i64 y1, .int .u32 y2, .int .i64 y3])).run Tryz.prog w = .ok (x0 == y0 && (x1 == y1 && (x2 == y2 && (x3 == y3)))) w := by
 refine eqA_of Tryz.underlying75 kr ?_
 refine eqf_cons (by rfl) (by go_simp; rfl) (by go_simp; rfl) (by go_simp) ?_
 refine eqf_cons (by rfl) (by go_simp; rfl) (by go_simp; rfl) (by go_simp) ?_
 refine eqf_cons (by rfl) (by go_simp; rfl) (by go_simp; rfl) (by go_simp) ?_
 exact eqf_last (by rfl) (by go_simp; rfl) (by go_simp; rfl) (by go_simp)
end Go.Proofs.YtobboonnfocalaaGreatDoor.PG1
namespace Go.Proofs.YtobboonnfocalaaGreatDoor.PG1
open Go.RowKit Go.Proofs.YtobboonnfocalaaGreatDoorW.PrintWords Go.Proofs.YtobboonnfocalaaGreatDoorW.PrintLast Go.Proofs.YtobboonnfocalaaGreatDoorW.PrintMore Go.Proofs.YtobboonnfocalaaGreatDoor.T
attribute [local go_sem] max2_int min2_int max_two min_two max_three min_three max_four min_four   -- for this text's walks alone
set_option linter.unusedVariables false
set_option linter.unusedSimpArgs false

attribute [local go_sem high] eqA75
/-! ### laws_toWarp: function 40 -/
def laws_toWarp.f (k : Nat) (a0_0 : Int) (l0_1 : List Int) (l0_2 : List Int) (a0_3 : Int) (a0_4 : Int) (a0_5 : Int) (a0_6 : Int) (a0_7 : Int) : Option (Int × List Int × List Int × Int × Int × Int × Int × Int) := (laws_toIntS.f k l0_1).bind fun t356 => ((laws_toIntS.f k l0_2).bind fun t359 => (some (a0_0, t356, t359, a0_3, a0_4, a0_5, a0_6, a0_7)))
theorem laws_toWarp.mono : ∀ a0 a1 a2 a3 a4 a5 a6 a7 k, LeO (laws_toWarp.f k a0 a1 a2 a3 a4 a5 a6 a7) (laws_toWarp.f (k + 1) a0 a1 a2 a3 a4 a5 a6 a7) := by
 intro a0 a1 a2 a3 a4 a5 a6 a7 k
 unfold laws_toWarp.f
 repeat' first
  | (with_reducible first | exact laws_toIntS.mono .. | exact LeO.refl _ | exact LeO.none _ | refine LeO.ite ?_ ?_ | refine LeO.bind ?_ (fun _ => ?_))
  | exact LeO.none _ | refine LeO.ite ?_ ?_ | refine LeO.bind ?_ (fun _ => ?_)
set_option maxHeartbeats 8000000 in
set_option maxRecDepth 100000 in
theorem laws_toWarp.calls (k : Nat) (a0_0 : Int) (A0_1 : Option Addr) (c0_1 : Nat) (l0_1 : List Int) (A0_2 : Option Addr) (c0_2 : Nat) (l0_2 : List Int) (a0_3 : Int) (a0_4 : Int) (a0_5 : Int) (a0_6 : Int) (a0_7 : Int) (r1 : Int) (r2 : List Int) (r3 : List Int) (r4 : Int) (r5 : Int) (r6 : Int) (r7 : Int) (r8 : Int) (w : World) (hr0_1 : Kd.C (Kd.int .i64) w A0_1 l0_1.length l0_1) (hc0_1 : l0_1.length ≤ c0_1) (hr0_2 : Kd.C (Kd.int .i64) w A0_2 l0_2.length l0_2) (hc0_2 : l0_2.length ≤ c0_2) (h : laws_toWarp.f k a0_0 l0_1 l0_2 a0_3 a0_4 a0_5 a0_6 a0_7 = some (r1, r2, r3, r4, r5, r6, r7, r8)) :
  Calls Tryz.prog 40 #[.agg #[.int .i64 a0_0, .slice A0_1 l0_1.length c0_1, .slice A0_2 l0_2.length c0_2, .int .u32 a0_3, .int .i64 a0_4, .int .i64 a0_5, .int .i64 a0_6, .int .u32 a0_7]] w fun e w' => ∃ v1_ v2_ : Value, e = .returned (.agg #[.int .i64 r1, v1_, v2_, .int .u32 r4, .int .i64 r5, .int .i64 r6, .int .i64 r7, .int .u32 r8]) ∧ Kd.R (Kd.int .i64) 3 w' w.heap.size (fun k_ => some k_ ≠ (v2_ : Value).ownBlock) v1_ r2 ∧ Kd.R (Kd.int .i64) 3 w' w.heap.size (fun k_ => some k_ ≠ (v1_ : Value).ownBlock) v2_ r3 ∧ Below w.heap.size w w' := by
 have hu71 := Tryz.underlying71
 have hu49 := Tryz.underlying49
 have HR0_1 := Aside0.mk hr0_1
 have HC0_1 := Aside0.mk hc0_1
 clear hr0_1 hc0_1
 have HR0_2 := Aside0.mk hr0_2
 have HC0_2 := Aside0.mk hc0_2
 clear hr0_2 hc0_2
 have HB := Aside0.mk (Below.refl w.heap.size w)
 unfold laws_toWarp.f at h
 have H := h
 clear h
 replace H := bn H
 obtain ⟨t356, A2, H⟩ := H
 try dsimp only at H
 replace H := bn H
 obtain ⟨t359, A3, H⟩ := H
 try dsimp only at H
 simp only [Option.some.injEq, Prod.mk.injEq] at H
 obtain ⟨rfl, rfl, rfl, rfl, rfl, rfl, rfl, rfl⟩ := H
 go_enter Tryz.func40, Tryz.ntmps40
 go_wp2_with (first | ((with_reducible refine gd 1 ?_); refine bx 1 71 #[.int .i64 a0_0, .slice A0_1 l0_1.length c0_1, .slice A0_2 l0_2.length c0_2, .int .u32 a0_3, .int .i64 a0_4, .int .i64 a0_5, .int .i64 a0_6, .int .u32 a0_7] ?_; clear HB; intro gb353 w4 hg BK353 hb GE353 HB; clear hb hg) | ((with_reducible refine gd 2 ?_); refine bx 2 49 #[.int .i64 0, .slice none 0 0, .slice none 0 0, .int .u32 0, .int .i64 0, .int .i64 0, .int .i64 0, .int .u32 0] ?_; clear HB; intro gb354 w5 hg BK354 hb GE354 HB; have NB353_354 := nl BK353 hg; have NB354_353 := ng BK353 hg; replace BK353 := b_ BK353 hb; clear hb hg) | ((with_reducible refine gd 3 ?_); refine bx 3 49 #[.int .i64 0, .slice none 0 0, .slice none 0 0, .int .u32 0, .int .i64 0, .int .i64 0, .int .i64 0, .int .u32 0] ?_; clear HB; intro gb355 w6 hg BK355 hb GE355 HB; have NB353_355 := nl BK353 hg; have NB355_353 := ng BK353 hg; replace BK353 := b_ BK353 hb; have NB354_355 := nl BK354 hg; have NB355_354 := ng BK354 hg; replace BK354 := b_ BK354 hb; clear hb hg; have hnb7 := NB353_354.out; have hnc7 := NB354_353.out; have hnb8 := NB353_355.out; have hnc8 := NB355_353.out; obtain ⟨z9_0, z9_1, z9_2, z9_3, z9_4, z9_5, z9_6, z9_7⟩ := ca8 BK353; obtain ⟨f9_0, f9_1, f9_2, f9_3, f9_4, f9_5, f9_6, f9_7⟩ := fa8 BK353; have hnb10 := NB355_354.out; have hnc10 := NB354_355.out; obtain ⟨z11_0, z11_1, z11_2, z11_3, z11_4, z11_5, z11_6, z11_7⟩ := ca8 BK355; obtain ⟨f11_0, f11_1, f11_2, f11_3, f11_4, f11_5, f11_6, f11_7⟩ := fa8 BK355) | ((with_reducible refine gf 68 ?_); refine gc Tryz.func68 (some 9) (laws_toIntS.calls _ A0_1 c0_1 _ _ _ (Kd.C_below HR0_1.out bw) HC0_1.out A2.out) ?_; rintro e w12 ⟨v357, rfl, ho0, hb⟩; refine ⟨_, rfl, ?_⟩; have HO358 := Aside0.mk (Kd.R_lower ho0 (below_size bw)); replace BK353 := b_ BK353 hb; replace BK354 := b_ BK354 hb; replace BK355 := bq BK355 #[.int .i64 a0_0, .slice none 0 0, .slice none 0 0, .int .u32 0, .int .i64 0, .int .i64 0, .int .i64 0, .int .u32 0] hb; replace HB := hs hb; try clear hb; (try clear ho0); obtain ⟨Ao13, co13, eo13⟩ := Kd.R_slice HO358.out; subst eo13; obtain ⟨z14_0, z14_1, z14_2, z14_3, z14_4, z14_5, z14_6, z14_7⟩ := ca8 BK355; obtain ⟨f14_0, f14_1, f14_2, f14_3, f14_4, f14_5, f14_6, f14_7⟩ := fa8 BK355; obtain ⟨z15_0, z15_1, z15_2, z15_3, z15_4, z15_5, z15_6, z15_7⟩ := ca8 BK353; obtain ⟨f15_0, f15_1, f15_2, f15_3, f15_4, f15_5, f15_6, f15_7⟩ := fa8 BK353) | ((with_reducible refine gf 68 ?_); refine gc Tryz.func68 (some 13) (laws_toIntS.calls _ A0_2 c0_2 _ _ _ (Kd.C_below HR0_2.out bw) HC0_2.out A3.out) ?_; rintro e w16 ⟨v360, rfl, ho0, hb⟩; refine ⟨_, rfl, ?_⟩; have HO361 := Aside0.mk (Kd.R_lower (Kd.R_new' ho0 (Kd.R_lt (rx HO358 BK355))) (below_size bw)); replace HO358 := Aside0.mk (Kd.R_elder' (rx HO358 BK355) (Kd.R_base ho0) hb); replace BK353 := b_ BK353 hb; replace BK354 := b_ BK354 hb; replace BK355 := bq BK355 #[.int .i64 a0_0, .slice Ao13 t356.length co13, .slice none 0 0, .int .u32 0, .int .i64 0, .int .i64 0, .int .i64 0, .int .u32 0] hb; replace HB := hs hb; try clear hb; (try clear ho0); obtain ⟨Ao17, co17, eo17⟩ := Kd.R_slice HO361.out; subst eo17; obtain ⟨z18_0, z18_1, z18_2, z18_3, z18_4, z18_5, z18_6, z18_7⟩ := ca8 BK355; obtain ⟨f18_0, f18_1, f18_2, f18_3, f18_4, f18_5, f18_6, f18_7⟩ := fa8 BK355; obtain ⟨z19_0, z19_1, z19_2, z19_3, z19_4, z19_5, z19_6, z19_7⟩ := ca8 BK353; obtain ⟨f19_0, f19_1, f19_2, f19_3, f19_4, f19_5, f19_6, f19_7⟩ := fa8 BK353; obtain ⟨z20_0, z20_1, z20_2, z20_3, z20_4, z20_5, z20_6, z20_7⟩ := ca8 BK354; obtain ⟨f20_0, f20_1, f20_2, f20_3, f20_4, f20_5, f20_6, f20_7⟩ := fa8 BK354))
 refine bodyPost_ret (results_cell_row rfl _ _ gb354 49 #[.int .i64 a0_0, .slice Ao13 t356.length co13, .slice Ao17 t359.length co17, .int .u32 a0_3, .int .i64 a0_4, .int .i64 a0_5, .int .i64 a0_6, .int .u32 a0_7] (0, 0) _ rfl (bp BK354) Tryz.underlying49 rfl kr) rfl ?_
 exact ⟨_, _, rt, by (with_reducible repeat (first | apply Kd.R_alloc | apply Kd.R_drewN | apply Kd.R_drew)); exact Kd.R_mono (Kd.R_far (p := ⟨gb354, 7, none⟩) (Kd.R_far (p := ⟨gb354, 6, none⟩) (Kd.R_far (p := ⟨gb354, 5, none⟩) (Kd.R_far (p := ⟨gb354, 4, none⟩) (Kd.R_far (p := ⟨gb354, 3, none⟩) (Kd.R_far (p := ⟨gb354, 2, none⟩) (Kd.R_far (p := ⟨gb354, 1, none⟩) (Kd.R_far (p := ⟨gb354, 0, none⟩) (Kd.R_far (p := ⟨gb355, 7, none⟩) (Kd.R_far (p := ⟨gb355, 6, none⟩) (Kd.R_far (p := ⟨gb355, 5, none⟩) (Kd.R_far (p := ⟨gb355, 4, none⟩) (Kd.R_far (p := ⟨gb355, 3, none⟩) (Kd.R_far (p := ⟨gb355, 2, none⟩) (Kd.R_types (Kd.R_types HO358.out BK355.out (by decide)) BK354.out (by decide)) (fun _ hk => hk.1.2) (.slice Ao17 t359.length co17)) (fun _ hk => hk.1.2) (.int .u32 a0_3)) (fun _ hk => hk.1.2) (.int .i64 a0_4)) (fun _ hk => hk.1.2) (.int .i64 a0_5)) (fun _ hk => hk.1.2) (.int .i64 a0_6)) (fun _ hk => hk.1.2) (.int .u32 a0_7)) (fun _ hk => hk.2) (.int .i64 a0_0)) (fun _ hk => hk.2) (.slice Ao13 t356.length co13)) (fun _ hk => hk.2) (.slice Ao17 t359.length co17)) (fun _ hk => hk.2) (.int .u32 a0_3)) (fun _ hk => hk.2) (.int .i64 a0_4)) (fun _ hk => hk.2) (.int .i64 a0_5)) (fun _ hk => hk.2) (.int .i64 a0_6)) (fun _ hk => hk.2) (.int .u32 a0_7)) (fun _ hk => hk.1.1.2), by (with_reducible repeat (first | apply Kd.R_alloc | apply Kd.R_drewN | apply Kd.R_drew)); exact Kd.R_mono (Kd.R_far (p := ⟨gb354, 7, none⟩) (Kd.R_far (p := ⟨gb354, 6, none⟩) (Kd.R_far (p := ⟨gb354, 5, none⟩) (Kd.R_far (p := ⟨gb354, 4, none⟩) (Kd.R_far (p := ⟨gb354, 3, none⟩) (Kd.R_far (p := ⟨gb354, 2, none⟩) (Kd.R_far (p := ⟨gb354, 1, none⟩) (Kd.R_far (p := ⟨gb354, 0, none⟩) (Kd.R_far (p := ⟨gb355, 7, none⟩) (Kd.R_far (p := ⟨gb355, 6, none⟩) (Kd.R_far (p := ⟨gb355, 5, none⟩) (Kd.R_far (p := ⟨gb355, 4, none⟩) (Kd.R_far (p := ⟨gb355, 3, none⟩) (Kd.R_far (p := ⟨gb355, 2, none⟩) (Kd.R_types (Kd.R_types HO361.out BK355.out (by decide)) BK354.out (by decide)) (fun _ hk => hk.1.2) (.slice Ao17 t359.length co17)) (fun _ hk => hk.1.2) (.int .u32 a0_3)) (fun _ hk => hk.1.2) (.int .i64 a0_4)) (fun _ hk => hk.1.2) (.int .i64 a0_5)) (fun _ hk => hk.1.2) (.int .i64 a0_6)) (fun _ hk => hk.1.2) (.int .u32 a0_7)) (fun _ hk => hk.2) (.int .i64 a0_0)) (fun _ hk => hk.2) (.slice Ao13 t356.length co13)) (fun _ hk => hk.2) (.slice Ao17 t359.length co17)) (fun _ hk => hk.2) (.int .u32 a0_3)) (fun _ hk => hk.2) (.int .i64 a0_4)) (fun _ hk => hk.2) (.int .i64 a0_5)) (fun _ hk => hk.2) (.int .i64 a0_6)) (fun _ hk => hk.2) (.int .u32 a0_7)) (fun _ hk => hk.1.1.2), bw⟩

/-! ### laws_toWarpS: function 19 -/
def laws_toWarpS.l0 : Nat → List (S71) → List (S49) → Int → Option ((List (S49)))
 | 0, _, _, _ => none
 | k + 1, x0, x3, x4 => if x4 < (x0.length : Int) then (if 0 ≤ x4 then ((laws_toWarp.f k ((rd_T71 x0 x4).f0) ((rd_T71 x0 x4).f1) ((rd_T71 x0 x4).f2) ((rd_T71 x0 x4).f3) ((rd_T71 x0 x4).f4) ((rd_T71 x0 x4).f5) ((rd_T71 x0 x4).f6) ((rd_T71 x0 x4).f7)).bind fun bt366 => (if x4 < (x3.length : Int) then (laws_toWarpS.l0 k x0 (x3.set (x4 : Int).toNat (⟨bt366.1, bt366.2.1, bt366.2.2.1, bt366.2.2.2.1, bt366.2.2.2.2.1, bt366.2.2.2.2.2.1, bt366.2.2.2.2.2.2.1, bt366.2.2.2.2.2.2.2⟩ : S49)) (wrap64 (x4 + 1))) else (none))) else (none)) else (some x3)
def laws_toWarpS.f (k : Nat) (l0 : List (S71)) : Option ((List (S49))) := if 0 ≤ (l0.length : Int) then (if ((l0.length : Int) : Int).toNat ≤ 2932031007402 then (laws_toWarpS.l0 k l0 (List.replicate ((l0.length : Int) : Int).toNat z49) 0) else (none)) else (none)
theorem laws_toWarpS.mono_l : ∀ k, (∀ y0 y1 y2, LeO (laws_toWarpS.l0 k y0 y1 y2) (laws_toWarpS.l0 (k + 1) y0 y1 y2))
 | 0 => fun _ _ _ r h => by simp [laws_toWarpS.l0] at h
 | k + 1 => by
  have ih0 := laws_toWarpS.mono_l k
  ·intro y0 y1 y2
   unfold laws_toWarpS.l0
   repeat' first
    | (with_reducible first | exact ih0 .. | exact laws_toWarp.mono .. | exact LeO.refl _ | exact LeO.none _ | refine LeO.ite ?_ ?_ | refine LeO.bind ?_ (fun _ => ?_))
    | exact LeO.none _ | refine LeO.ite ?_ ?_ | refine LeO.bind ?_ (fun _ => ?_)
theorem laws_toWarpS.mono : ∀ a0 k, LeO (laws_toWarpS.f k a0) (laws_toWarpS.f (k + 1) a0) := by
 intro a0 k
 have ih0 := laws_toWarpS.mono_l k
 unfold laws_toWarpS.f
 repeat' first
  | (with_reducible first | exact ih0 .. | exact laws_toWarp.mono .. | exact LeO.refl _ | exact LeO.none _ | refine LeO.ite ?_ ?_ | refine LeO.bind ?_ (fun _ => ?_))
  | exact LeO.none _ | refine LeO.ite ?_ ?_ | refine LeO.bind ?_ (fun _ => ?_)
set_option maxHeartbeats 8000000 in
set_option maxRecDepth 100000 in
theorem laws_toWarpS.calls (k : Nat) (A0 : Option Addr) (c0 : Nat) (l0 : List (S71)) (r : List (S49)) (w : World) (hr0 : Kd.C k71 w A0 l0.length l0) (hc0 : l0.length ≤ c0) (h : laws_toWarpS.f k l0 = some r) :
  Calls Tryz.prog 19 #[.slice A0 l0.length c0] w fun e w' => ∃ v0_ : Value, e = .returned (v0_) ∧ Kd.S k49 49 w' w.heap.size (fun _ => True) v0_ r ∧ Below w.heap.size w w' := by
 have hu71 := Tryz.underlying71
 have hu49 := Tryz.underlying49
 have HR0 := Aside0.mk hr0
 have HC0 := Aside0.mk hc0
 clear hr0 hc0
 have HB := Aside0.mk (Below.refl w.heap.size w)
 unfold laws_toWarpS.f at h
 have H := h
 clear h
 by_cases c2 : 0 ≤ (l0.length : Int)
 ·rw [if_pos c2] at H
  have c2b0 := eq_true c2
  have c2b1 : decide (0 ≤ (l0.length : Int)) = true := decide_eq_true c2
  clear c2
  by_cases c3 : ((l0.length : Int) : Int).toNat ≤ 2932031007402
  ·rw [if_pos c3] at H
   have c3b0 := eq_true c3
   have c3b1 : decide (((l0.length : Int) : Int).toNat ≤ 2932031007402) = true := decide_eq_true c3
   clear c3
   obtain ⟨y362, hy362⟩ : ∃ y_ : List (S49), y_ = (List.replicate ((l0.length : Int) : Int).toNat z49) := ⟨_, rfl⟩
   rw [← hy362] at H
   try with_reducible replace H := bs H
   have Ny362 := Aside0.mk hy362
   clear hy362
   have H' := Aside0.mk H
   clear H
   go_enter Tryz.func19, Tryz.ntmps19
   go_wp2_with (first | ((with_reducible refine gate_dst (N := 7) rfl ?_); refine Kd.S_make k49 _ 49 rfl (N := 7) rfl 35 _ _ rfl (l0.length : Int) rfl rfl Tryz.underlying35 (.agg #[(.int .i64 0), (.slice none 0 0), (.slice none 0 0), (.int .u32 0), (.int .i64 0), (.int .i64 0), (.int .i64 0), (.int .u32 0)]) 96 info49 rfl (by decide) (by omega) z49 (ok := fun _ => True) (okp := fun _ => True) (k49_mkM _ _ _ z49 (Kd.R_nil _ _ _ _ _) (Kd.R_nil _ _ _ _ _)) (fun _ hk => hk) trivial (of_decide_eq_true as_) (Nat.le_trans (Nat.mul_le_mul_right _ (of_decide_eq_true as_ : (l0.length : Int).toNat ≤ 2932031007402)) (by omega)) (Below.refl _ _) (Nat.le_refl _) ?_; intro v363 w4 ho5 hb hg_ hnew_; clear hg_ hnew_; (first | rw [← Ny362.out] at ho5 | (simp only [Int.reduceToNat] at ho5; rw [← Ny362.out] at ho5)); have HO364 := Aside0.mk (Kd.S_lower ho5 (below_size bw)); replace HB := hs hb; clear hb ho5))
   go_loopg [4] k (fun kq v4 w' => ∃ (x3_1 : List (S49)) (x4_1 : Int), v4 = .int .i64 x4_1 ∧ Aside0 (laws_toWarpS.l0 kq l0 x3_1 x4_1 = some r) ∧ Aside0 (kq ≤ k) ∧ Aside0 (Kd.S k49 49 w' w.heap.size (fun _ => True) v363 x3_1) ∧ Aside0 (Below w.heap.size w w'))
   case atStart => exact ⟨(y362), (0), ev, H', ⟨Nat.le_refl _⟩, ⟨by (with_reducible repeat (first | apply Kd.S_alloc | apply Kd.S_drewN | apply Kd.S_drew)); exact HO364.out⟩, ⟨bw⟩⟩
   case round =>
    clear H'
    try clear c2
    try clear c2b0
    try clear c2b1
    try clear c3
    try clear c3b0
    try clear c3b1
    obtain ⟨x3_1, x4_1, rfl, HA, HK1, HO_3, HB⟩ := hrel
    cases gk with
    | zero => exact absurd HA.out (by simp [laws_toWarpS.l0])
    | succ k1 =>
     have H := HA.out
     clear HA
     simp only [laws_toWarpS.l0] at H
     replace H := ilt H
     rcases H with ⟨c6b0, H⟩ | ⟨c6b0, H⟩
     ·by_cases c7 : 0 ≤ x4_1
      ·rw [if_pos c7] at H
       have c7b0 : decide (0 ≤ x4_1) = true := decide_eq_true c7
       clear c7
       replace H := bn H
       obtain ⟨⟨t366, t367, t370, t373, t374, t375, t376, t377⟩, A8, H⟩ := H
       try dsimp only at H
       by_cases c9 : x4_1 < (x3_1.length : Int)
       ·rw [if_pos c9] at H
        have c9b0 : decide (x4_1 < (x3_1.length : Int)) = true := decide_eq_true c9
        clear c9
        obtain ⟨y378, hy378⟩ : ∃ y_ : List (S49), y_ = (x3_1.set (x4_1 : Int).toNat (⟨t366, t367, t370, t373, t374, t375, t376, t377⟩ : S49)) := ⟨_, rfl⟩
        rw [← hy378] at H
        try with_reducible replace H := bs H
        have Ny378 := Aside0.mk hy378
        clear hy378
        have H' := Aside0.mk H
        clear H
        have p365 : 0 ≤ (x4_1 : Int) := of_decide_eq_true as_
        have q365 : x4_1 < (l0.length : Int) := of_decide_eq_true as_
        obtain ⟨ad365, A365_1, c365_1, A365_2, c365_2, e365, hx365_0, hx365_1, hx365_2, hx365_3, hx365_4, hx365_5, hx365_6, hx365_7, hl365_1, hi365_1, hl365_2, hi365_2⟩ := at_T71 HR0.out x4_1 p365 q365
        cases e365
        replace hx365_0 := cl HB hx365_0
        replace hx365_1 := cl HB hx365_1
        replace hx365_2 := cl HB hx365_2
        replace hx365_3 := cl HB hx365_3
        replace hx365_4 := cl HB hx365_4
        replace hx365_5 := cl HB hx365_5
        replace hx365_6 := cl HB hx365_6
        replace hx365_7 := cl HB hx365_7
        have HR365_1 := Aside0.mk hi365_1
        have HC365_1 := Aside0.mk hl365_1
        clear hi365_1 hl365_1
        have HR365_2 := Aside0.mk hi365_2
        have HC365_2 := Aside0.mk hl365_2
        clear hi365_2 hl365_2
        replace p365 := eq_true p365
        replace q365 := eq_true q365
        go_wp2_with (first | ((with_reducible refine gf 40 ?_); refine gc Tryz.func40 (some 20) (laws_toWarp.calls _ _ A365_1 c365_1 _ A365_2 c365_2 _ _ _ _ _ _ _ _ _ _ _ _ _ _ _ (cb HR365_1) HC365_1.out (cb HR365_2) HC365_2.out A8.out) ?_; rintro e w11 ⟨v368, v371, rfl, ho0, ho1, hb⟩; refine ⟨_, rfl, ?_⟩; replace HO_3 := Aside0.mk (Kd.S_mono (Kd.S_told (Kd.S_told (Kd.S_old (by (with_reducible repeat (first | apply Kd.S_alloc | apply Kd.S_drewN | apply Kd.S_drew)); exact HO_3.out) hb) (Kd.R_base ho0)) (Kd.R_base ho1)) (fun _ h_ => h_.1)); have HO369 := Aside0.mk (Kd.R_lower ho0 (below_size bw)); have HO372 := Aside0.mk (Kd.R_lower ho1 (below_size bw)); replace HB := hs hb; try clear hb; (try clear ho0); (try clear ho1); have p10 : 0 ≤ (x4_1 : Int) := of_decide_eq_true as_; have q10 : (x4_1 : Int) < ((x3_1.length : Int) : Int) := of_decide_eq_true as_; obtain ⟨go10, co10, eo10, gb10, gl10, cl10, HG10⟩ := Kd.S_form HO_3.out (by omega); (first | cases eo10 | (injection eo10 with ea_ en_ ec_; (first | subst ea_ | (injection ea_ with ea_; subst ea_)); subst ec_; clear en_)); have GB10 := Aside0.mk gb10; have GG10 := Aside0.mk HG10; clear gb10 gl10 HG10; obtain ⟨_, ce10, hcl10, hM10, hcc10, hfr10, _, _⟩ := Kd.S_elem HO_3.out z49 (x4_1 : Int) p10 q10; obtain ⟨ve10_1, ve10_2, rfl, ge10_1, ge10_2⟩ := k49_openM hM10; have hx10_0 : w11.cell? ⟨go10, (x4_1 : Int).toNat * 8, none⟩ = some (.int .i64 ((rd_T49 x3_1 x4_1).f0)) := hcc10 0 _ rfl; have hx10_1 : w11.cell? ⟨go10, (x4_1 : Int).toNat * 8 + 1, none⟩ = some (ve10_1) := hcc10 1 _ rfl; have hx10_2 : w11.cell? ⟨go10, (x4_1 : Int).toNat * 8 + 2, none⟩ = some (ve10_2) := hcc10 2 _ rfl; have hx10_3 : w11.cell? ⟨go10, (x4_1 : Int).toNat * 8 + 3, none⟩ = some (.int .u32 ((rd_T49 x3_1 x4_1).f3)) := hcc10 3 _ rfl; have hx10_4 : w11.cell? ⟨go10, (x4_1 : Int).toNat * 8 + 4, none⟩ = some (.int .i64 ((rd_T49 x3_1 x4_1).f4)) := hcc10 4 _ rfl; have hx10_5 : w11.cell? ⟨go10, (x4_1 : Int).toNat * 8 + 5, none⟩ = some (.int .i64 ((rd_T49 x3_1 x4_1).f5)) := hcc10 5 _ rfl; have hx10_6 : w11.cell? ⟨go10, (x4_1 : Int).toNat * 8 + 6, none⟩ = some (.int .i64 ((rd_T49 x3_1 x4_1).f6)) := hcc10 6 _ rfl; have hx10_7 : w11.cell? ⟨go10, (x4_1 : Int).toNat * 8 + 7, none⟩ = some (.int .u32 ((rd_T49 x3_1 x4_1).f7)) := hcc10 7 _ rfl; have hf10_0 : w11.frozen? ⟨go10, (x4_1 : Int).toNat * 8, none⟩ = false := hfr10 0; have hf10_1 : w11.frozen? ⟨go10, (x4_1 : Int).toNat * 8 + 1, none⟩ = false := hfr10 1; have hf10_2 : w11.frozen? ⟨go10, (x4_1 : Int).toNat * 8 + 2, none⟩ = false := hfr10 2; have hf10_3 : w11.frozen? ⟨go10, (x4_1 : Int).toNat * 8 + 3, none⟩ = false := hfr10 3; have hf10_4 : w11.frozen? ⟨go10, (x4_1 : Int).toNat * 8 + 4, none⟩ = false := hfr10 4; have hf10_5 : w11.frozen? ⟨go10, (x4_1 : Int).toNat * 8 + 5, none⟩ = false := hfr10 5; have hf10_6 : w11.frozen? ⟨go10, (x4_1 : Int).toNat * 8 + 6, none⟩ = false := hfr10 6; have hf10_7 : w11.frozen? ⟨go10, (x4_1 : Int).toNat * 8 + 7, none⟩ = false := hfr10 7; clear hcl10 hcc10 hfr10 hM10; replace p10 := eq_true p10; replace q10 := eq_true q10; have n_ := Aside0.mk (Kd.S_mono (ok' := (fun k_ => some k_ ≠ (v368 : Value).ownBlock ∧ some k_ ≠ (v371 : Value).ownBlock)) HO_3.out (fun k_ hk => ⟨hk.1.2, hk.2⟩)); clear HO_3; have HO_3 := n_; clear n_; have HX12 := Aside0.mk (show Kd.S k49 49 w11 w.heap.size (fun k_ => ((fun _ => True)) k_ ∧ ¬ ((fun k_ => some k_ = (v368 : Value).ownBlock ∨ some k_ = (v371 : Value).ownBlock)) k_) (.slice (some ⟨go10, 0, none⟩) x3_1.length co10) x3_1 from (by (with_reducible repeat (first | apply Kd.S_alloc | apply Kd.S_drewN | apply Kd.S_drew)); exact Kd.S_mono HO_3.out (fun k_ hk => ⟨trivial, fun e_ => e_.elim (fun h_ => hk.1 h_) (fun h_ => hk.2 h_)⟩))); obtain ⟨oki12, ce12, hcl12, hM12, hcc12, hfr12, hoki12, hH12⟩ := Kd.S_elem HX12.out z49 (x4_1 : Int) (of_decide_eq_true as_) (by have h_ : (x4_1 : Int) < ((x3_1.length : Int) : Int) := of_decide_eq_true as_; first | exact h_ | (have e_ := (Kd.S_reads' HO_3.out).1; omega) | simpa using h_); obtain ⟨ve12_1, ve12_2, rfl, ge12_1, ge12_2⟩ := k49_openM hM12; have HP12 := Kd.S_seg hH12 (of_decide_eq_true as_) (by have h_ : (x4_1 : Int) < ((x3_1.length : Int) : Int) := of_decide_eq_true as_; first | exact h_ | (have e_ := (Kd.S_reads' HO_3.out).1; omega) | simpa using h_) (seg := [.int .i64 t366, v368, v371, .int .u32 t373, .int .i64 t374, .int .i64 t375, .int .i64 t376, .int .u32 t377]) (j := 0) (show 8 ≤ 8 from by decide) (x' := (⟨t366, t367, t370, t373, t374, t375, t376, t377⟩ : S49)) (k49_mkM _ _ _ (⟨t366, t367, t370, t373, t374, t375, t376, t377⟩ : S49) (Kd.R_mono (Kd.R_tight rfl (Kd.R_mono (ok' := fun k_ => ((fun _ => True)) k_ ∧ k_ ≠ go10) (Kd.R_apart' (HO369.out) (Kd.S_typed HO_3.out) (by decide)) (fun k_ hk => ⟨trivial, fun e_ => (hk.2) (by rw [e_]; rfl)⟩))) (fun _ h_ => Or.inr (Or.inl h_))) (Kd.R_mono (Kd.R_tight rfl (Kd.R_mono (ok' := fun k_ => ((fun _ => True)) k_ ∧ k_ ≠ go10) (Kd.R_apart' (HO372.out) (Kd.S_typed HO_3.out) (by decide)) (fun k_ hk => ⟨trivial, fun e_ => (hk.2) (by rw [e_]; rfl)⟩))) (fun _ h_ => Or.inr (Or.inr (h_))))) (fun _ hk => hk) (fun k_ hk_ => hk_.elim (fun h_ => ((Kd.R_mono (ok' := fun k_ => ((fun _ => True)) k_ ∧ k_ ≠ go10) (Kd.R_apart' (HO369.out) (Kd.S_typed HO_3.out) (by decide)) (fun k_ hk => ⟨trivial, fun e_ => (hk.2) (by rw [e_]; rfl)⟩))).1 k_ h_.symm) (fun h_ => ((Kd.R_mono (ok' := fun k_ => ((fun _ => True)) k_ ∧ k_ ≠ go10) (Kd.R_apart' (HO372.out) (Kd.S_typed HO_3.out) (by decide)) (fun k_ hk => ⟨trivial, fun e_ => (hk.2) (by rw [e_]; rfl)⟩))).1 k_ h_.symm)); have hx12_0 := hcc12 0 _ rfl; (try simp only [show (k49).sz = 8 from rfl, Nat.mul_one, Nat.add_zero] at hx12_0); have hf12_0 := hfr12 0; (try simp only [show (k49).sz = 8 from rfl, Nat.mul_one, Nat.add_zero] at hf12_0); have hx12_1 := hcc12 1 _ rfl; (try simp only [show (k49).sz = 8 from rfl, Nat.mul_one, Nat.add_zero] at hx12_1); have hf12_1 := hfr12 1; (try simp only [show (k49).sz = 8 from rfl, Nat.mul_one, Nat.add_zero] at hf12_1); have hx12_2 := hcc12 2 _ rfl; (try simp only [show (k49).sz = 8 from rfl, Nat.mul_one, Nat.add_zero] at hx12_2); have hf12_2 := hfr12 2; (try simp only [show (k49).sz = 8 from rfl, Nat.mul_one, Nat.add_zero] at hf12_2); have hx12_3 := hcc12 3 _ rfl; (try simp only [show (k49).sz = 8 from rfl, Nat.mul_one, Nat.add_zero] at hx12_3); have hf12_3 := hfr12 3; (try simp only [show (k49).sz = 8 from rfl, Nat.mul_one, Nat.add_zero] at hf12_3); have hx12_4 := hcc12 4 _ rfl; (try simp only [show (k49).sz = 8 from rfl, Nat.mul_one, Nat.add_zero] at hx12_4); have hf12_4 := hfr12 4; (try simp only [show (k49).sz = 8 from rfl, Nat.mul_one, Nat.add_zero] at hf12_4); have hx12_5 := hcc12 5 _ rfl; (try simp only [show (k49).sz = 8 from rfl, Nat.mul_one, Nat.add_zero] at hx12_5); have hf12_5 := hfr12 5; (try simp only [show (k49).sz = 8 from rfl, Nat.mul_one, Nat.add_zero] at hf12_5); have hx12_6 := hcc12 6 _ rfl; (try simp only [show (k49).sz = 8 from rfl, Nat.mul_one, Nat.add_zero] at hx12_6); have hf12_6 := hfr12 6; (try simp only [show (k49).sz = 8 from rfl, Nat.mul_one, Nat.add_zero] at hf12_6); have hx12_7 := hcc12 7 _ rfl; (try simp only [show (k49).sz = 8 from rfl, Nat.mul_one, Nat.add_zero] at hx12_7); have hf12_7 := hfr12 7; (try simp only [show (k49).sz = 8 from rfl, Nat.mul_one, Nat.add_zero] at hf12_7); clear hcl12 hcc12 hfr12 hM12 hoki12 hH12) | ((with_reducible refine gate_store (t := 49) (p := 21) rfl ?_); refine store_event (t := 49) (p := 21) (v := ?vo_w13) (w1 := ((((((((w11.setCell ⟨go10, (x4_1 : Int).toNat * 8, none⟩ (.int .i64 t366)).setCell ⟨go10, (x4_1 : Int).toNat * 8 + 1, none⟩ (v368)).setCell ⟨go10, (x4_1 : Int).toNat * 8 + 2, none⟩ (v371)).setCell ⟨go10, (x4_1 : Int).toNat * 8 + 3, none⟩ (.int .u32 t373)).setCell ⟨go10, (x4_1 : Int).toNat * 8 + 4, none⟩ (.int .i64 t374)).setCell ⟨go10, (x4_1 : Int).toNat * 8 + 5, none⟩ (.int .i64 t375)).setCell ⟨go10, (x4_1 : Int).toNat * 8 + 6, none⟩ (.int .i64 t376)).setCell ⟨go10, (x4_1 : Int).toNat * 8 + 7, none⟩ (.int .u32 t377))) ?hg ?ho ?hn ?hr ?_; (case ho => rfl); (case hg => rfl); (case hn => rfl); (case hr => first | (go_simp; done) | (go_simp; rfl) | (obtain ⟨_, _, e368_⟩ := Kd.R_slice HO369.out; subst e368_; obtain ⟨_, _, e371_⟩ := Kd.R_slice HO372.out; subst e371_; first | (go_simp; done) | (go_simp; rfl))); intro w13 hw; have hg : w11.grownBy w13 (some go10) := (by rw [hw]; exact HP12.2); have hp_ : Kd.S k49 49 w13 w.heap.size (fun _ => True) (.slice (some ⟨go10, 0, none⟩) x3_1.length co10) y378 := (by rw [hw, Ny378.out]; exact HP12.1); clear HP12; replace HO_3 := Aside0.mk (hp_); replace HB := Aside0.mk ((by rw [hw]; exact below_set (below_set (below_set (below_set (below_set (below_set (below_set (below_set (HB.out) GB10.out) GB10.out) GB10.out) GB10.out) GB10.out) GB10.out) GB10.out) GB10.out : Below w.heap.size w w13)); clear HO369 HO372; clear hg hw hp_))
        go_roundg k1
        case measure => have := HK1.out; omega
        case rel => exact ⟨(y378), (wrap64 (x4_1 + 1)), ev, H', ⟨oa HK1⟩, ⟨by (with_reducible repeat (first | apply Kd.S_alloc | apply Kd.S_drewN | apply Kd.S_drew)); exact HO_3.out⟩, ⟨bw⟩⟩
       ·rw [if_neg c9] at H
        exact absurd H (by simp)
      ·rw [if_neg c7] at H
       exact absurd H (by simp)
     ·obtain rfl := Option.some.inj H
      go_wp2
      go_ret
      exact ⟨_, rt, by (with_reducible repeat (first | apply Kd.S_alloc | apply Kd.S_drewN | apply Kd.S_drew)); exact HO_3.out, bw⟩
  ·rw [if_neg c3] at H
   exact absurd H (by simp)
 ·rw [if_neg c2] at H
  exact absurd H (by simp)

/-! ### laws_toMach: function 6 -/
def laws_toMach.f (k : Nat) (l0_0 : List Int) (l0_1 : List (S71)) : Option (List Int × (List (S49))) := (laws_toMem.f k l0_0).bind fun t382 => ((laws_toWarpS.f k l0_1).bind fun t385 => (some (t382, t385)))
theorem laws_toMach.mono : ∀ a0 a1 k, LeO (laws_toMach.f k a0 a1) (laws_toMach.f (k + 1) a0 a1) := by
 intro a0 a1 k
 unfold laws_toMach.f
 repeat' first
  | (with_reducible first | exact laws_toMem.mono .. | exact laws_toWarpS.mono .. | exact LeO.refl _ | exact LeO.none _ | refine LeO.ite ?_ ?_ | refine LeO.bind ?_ (fun _ => ?_))
  | exact LeO.none _ | refine LeO.ite ?_ ?_ | refine LeO.bind ?_ (fun _ => ?_)
set_option maxHeartbeats 8000000 in
set_option maxRecDepth 100000 in
theorem laws_toMach.calls (k : Nat) (A0_0 : Option Addr) (c0_0 : Nat) (l0_0 : List Int) (A0_1 : Option Addr) (c0_1 : Nat) (l0_1 : List (S71)) (r1 : List Int) (r2 : List (S49)) (w : World) (hr0_0 : Kd.C (Kd.int .u32) w A0_0 l0_0.length l0_0) (hc0_0 : l0_0.length ≤ c0_0) (hr0_1 : Kd.C k71 w A0_1 l0_1.length l0_1) (hc0_1 : l0_1.length ≤ c0_1) (h : laws_toMach.f k l0_0 l0_1 = some (r1, r2)) :
  Calls Tryz.prog 6 #[.agg #[.slice A0_0 l0_0.length c0_0, .slice A0_1 l0_1.length c0_1]] w fun e w' => ∃ v0_ v1_ : Value, e = .returned (.agg #[v0_, v1_]) ∧ Kd.R (Kd.int .u32) 47 w' w.heap.size (fun _ => True) v0_ r1 ∧ Kd.S k49 49 w' w.heap.size (fun _ => True) v1_ r2 ∧ Below w.heap.size w w' := by
 have hu27 := Tryz.underlying27
 have hu37 := Tryz.underlying37
 have hu24 := Tryz.underlying24
 have hu34 := Tryz.underlying34
 have HR0_0 := Aside0.mk hr0_0
 have HC0_0 := Aside0.mk hc0_0
 clear hr0_0 hc0_0
 have HR0_1 := Aside0.mk hr0_1
 have HC0_1 := Aside0.mk hc0_1
 clear hr0_1 hc0_1
 have HB := Aside0.mk (Below.refl w.heap.size w)
 unfold laws_toMach.f at h
 have H := h
 clear h
 replace H := bn H
 obtain ⟨t382, A2, H⟩ := H
 try dsimp only at H
 replace H := bn H
 obtain ⟨t385, A3, H⟩ := H
 try dsimp only at H
 simp only [Option.some.injEq, Prod.mk.injEq] at H
 obtain ⟨rfl, rfl⟩ := H
 go_enter Tryz.func6, Tryz.ntmps6
 go_wp2_with (first | ((with_reducible refine gd 1 ?_); refine bx 1 27 #[.slice A0_0 l0_0.length c0_0, .slice A0_1 l0_1.length c0_1] ?_; clear HB; intro gb379 w4 hg BK379 hb GE379 HB; clear hb hg) | ((with_reducible refine gd 2 ?_); refine bx 2 37 #[.slice none 0 0, .slice none 0 0] ?_; clear HB; intro gb380 w5 hg BK380 hb GE380 HB; have NB379_380 := nl BK379 hg; have NB380_379 := ng BK379 hg; replace BK379 := b_ BK379 hb; clear hb hg) | ((with_reducible refine gd 3 ?_); refine bx 3 37 #[.slice none 0 0, .slice none 0 0] ?_; clear HB; intro gb381 w6 hg BK381 hb GE381 HB; have NB379_381 := nl BK379 hg; have NB381_379 := ng BK379 hg; replace BK379 := b_ BK379 hb; have NB380_381 := nl BK380 hg; have NB381_380 := ng BK380 hg; replace BK380 := b_ BK380 hb; clear hb hg; have hnb7 := NB379_380.out; have hnc7 := NB380_379.out; have hnb8 := NB379_381.out; have hnc8 := NB381_379.out; obtain ⟨z9_0, z9_1⟩ := ca2 BK379; obtain ⟨f9_0, f9_1⟩ := fa2 BK379) | ((with_reducible refine gf 18 ?_); refine gc Tryz.func18 (some 6) (laws_toMem.calls _ A0_0 c0_0 _ _ _ (cb HR0_0) HC0_0.out A2.out) ?_; rintro e w10 ⟨v383, rfl, ho0, hb⟩; refine ⟨_, rfl, ?_⟩; have HO384 := Aside0.mk (Kd.R_lower ho0 (below_size bw)); replace BK379 := b_ BK379 hb; replace BK380 := b_ BK380 hb; replace BK381 := b_ BK381 hb; replace HB := hs hb; try clear hb; (try clear ho0); obtain ⟨Ao11, co11, eo11⟩ := Kd.R_slice HO384.out; subst eo11; have hnb12 := NB381_380.out; have hnc12 := NB380_381.out; obtain ⟨z13_0, z13_1⟩ := ca2 BK381; obtain ⟨f13_0, f13_1⟩ := fa2 BK381; obtain ⟨z14_0, z14_1⟩ := ca2 BK379; obtain ⟨f14_0, f14_1⟩ := fa2 BK379) | ((with_reducible refine gf 19 ?_); refine gc Tryz.func19 (some 10) (laws_toWarpS.calls _ A0_1 c0_1 _ _ _ (Kd.C_below HR0_1.out bw) HC0_1.out A3.out) ?_; rintro e w15 ⟨v386, rfl, ho0, hb⟩; refine ⟨_, rfl, ?_⟩; replace HO384 := Aside0.mk (Kd.R_below (rx HO384 BK381) hb); have HO387 := Aside0.mk (Kd.S_lower ho0 (below_size bw)); replace BK379 := b_ BK379 hb; replace BK380 := b_ BK380 hb; replace BK381 := bq BK381 #[.slice Ao11 t382.length co11, .slice none 0 0] hb; replace HB := hs hb; try clear hb; (try clear ho0); obtain ⟨Ao16, co16, eo16⟩ := Kd.S_slice HO387.out; subst eo16; obtain ⟨z17_0, z17_1⟩ := ca2 BK381; obtain ⟨f17_0, f17_1⟩ := fa2 BK381; obtain ⟨z18_0, z18_1⟩ := ca2 BK380; obtain ⟨f18_0, f18_1⟩ := fa2 BK380))
 refine bodyPost_ret (results_cell_row rfl _ _ gb380 37 #[.slice Ao11 t382.length co11, .slice Ao16 t385.length co16] (0, 0) _ rfl (bp BK380) Tryz.underlying37 rfl kr) rfl ?_
 exact ⟨_, _, rt, by (with_reducible repeat (first | apply Kd.R_alloc | apply Kd.R_drewN | apply Kd.R_drew)); exact Kd.R_mono (Kd.R_far (p := ⟨gb380, 1, none⟩) (Kd.R_far (p := ⟨gb380, 0, none⟩) (Kd.R_far (p := ⟨gb381, 1, none⟩) (Kd.R_types (Kd.R_types HO384.out BK381.out (by decide)) BK380.out (by decide)) (fun _ hk => hk.1.2) (.slice Ao16 t385.length co16)) (fun _ hk => hk.2) (.slice Ao11 t382.length co11)) (fun _ hk => hk.2) (.slice Ao16 t385.length co16)) (fun _ hk => trivial), by (with_reducible repeat (first | apply Kd.S_alloc | apply Kd.S_drewN | apply Kd.S_drew)); exact Kd.S_mono (Kd.S_far (p := ⟨gb380, 1, none⟩) (Kd.S_far (p := ⟨gb380, 0, none⟩) (Kd.S_far (p := ⟨gb381, 1, none⟩) (Kd.S_types (Kd.S_types HO387.out BK381.out (by decide)) BK380.out (by decide)) (fun _ hk => hk.1.2) (.slice Ao16 t385.length co16)) (fun _ hk => hk.2) (.slice Ao11 t382.length co11)) (fun _ hk => hk.2) (.slice Ao16 t385.length co16)) (fun _ hk => trivial), bw⟩

/-! ### impl_within: function 21 -/
def impl_within.f (a0 : Int) (a1 : Int) (a2 : Int) : Option (Bool) := if a0 ≥ a1 then (some (decide (a0 ≤ a2))) else (some false)
set_option maxHeartbeats 8000000 in
set_option maxRecDepth 100000 in
theorem impl_within.calls (a0 : Int) (a1 : Int) (a2 : Int) (r : Bool) (w : World) (h : impl_within.f a0 a1 a2 = some r) :
  Calls Tryz.prog 21 #[.int .i64 a0, .int .i64 a1, .int .i64 a2] w fun e w' => e = .returned (.bool r) ∧ Drawn0 w w' := by
 unfold impl_within.f at h
 have H := h
 clear h
 replace H := ige H
 rcases H with ⟨c4b0, H⟩ | ⟨c4b0, H⟩
 ·obtain rfl := Option.some.inj H
  go_enter Tryz.func21, Tryz.ntmps21
  go_wp2
  go_ret
  exact ⟨ev, dr⟩
 ·obtain rfl := Option.some.inj H
  go_enter Tryz.func21, Tryz.ntmps21
  go_wp2
  go_ret
  exact ⟨ev, dr⟩

/-! ### bits_Mul64: function 82 -/
def bits_Mul64.f (a0 : Int) (a1 : Int) : Option (Int × Int) := some (IntKind.u64.wrap ((IntKind.u64.wrap ((IntKind.u64.wrap ((a0 / 4294967296) * (a1 / 4294967296))) + ((IntKind.u64.wrap ((IntKind.u64.wrap ((a0 / 4294967296) * (Go.bits .and .u64 a1 4294967295))) + ((IntKind.u64.wrap ((Go.bits .and .u64 a0 4294967295) * (Go.bits .and .u64 a1 4294967295))) / 4294967296))) / 4294967296))) + ((IntKind.u64.wrap ((Go.bits .and .u64 (IntKind.u64.wrap ((IntKind.u64.wrap ((a0 / 4294967296) * (Go.bits .and .u64 a1 4294967295))) + ((IntKind.u64.wrap ((Go.bits .and .u64 a0 4294967295) * (Go.bits .and .u64 a1 4294967295))) / 4294967296))) 4294967295) + (IntKind.u64.wrap ((Go.bits .and .u64 a0 4294967295) * (a1 / 4294967296))))) / 4294967296)), IntKind.u64.wrap (a0 * a1))
set_option maxHeartbeats 8000000 in
set_option maxRecDepth 100000 in
theorem bits_Mul64.calls (a0 : Int) (a1 : Int) (r1 : Int) (r2 : Int) (w : World) (h : bits_Mul64.f a0 a1 = some (r1, r2)) :
  Calls Tryz.prog 82 #[.int .u64 a0, .int .u64 a1] w fun e w' => e = .returned (.tuple #[.int .u64 r1, .int .u64 r2]) ∧ Drawn0 w w' := by
 unfold bits_Mul64.f at h
 have H := h
 clear h
 simp only [Option.some.injEq, Prod.mk.injEq] at H
 obtain ⟨rfl, rfl⟩ := H
 go_enter Tryz.func82, Tryz.ntmps82
 go_wp2
 go_ret2
 exact ⟨ev, dr⟩

/-! ### bits_Mul: function 48 -/
def bits_Mul.f (a0 : Int) (a1 : Int) : Option (Int × Int) := (bits_Mul64.f a0 a1).bind fun bt388 => (some (bt388.1, bt388.2))
set_option maxHeartbeats 8000000 in
set_option maxRecDepth 100000 in
theorem bits_Mul.calls (a0 : Int) (a1 : Int) (r1 : Int) (r2 : Int) (w : World) (h : bits_Mul.f a0 a1 = some (r1, r2)) :
  Calls Tryz.prog 48 #[.int .u64 a0, .int .u64 a1] w fun e w' => e = .returned (.tuple #[.int .u64 r1, .int .u64 r2]) ∧ Drawn0 w w' := by
 unfold bits_Mul.f at h
 have H := h
 clear h
 replace H := bn H
 obtain ⟨⟨t388, t389⟩, A3, H⟩ := H
 try dsimp only at H
 simp only [Option.some.injEq, Prod.mk.injEq] at H
 obtain ⟨rfl, rfl⟩ := H
 go_enter Tryz.func48, Tryz.ntmps48
 go_wp2_with (first | ((with_reducible refine gf 82 ?_); refine gc Tryz.func82 (some 25) (bits_Mul64.calls _ _ _ _ _ A3.out) ?_; rintro e w' ⟨rfl, ⟨nd, rfl⟩⟩; refine ⟨_, rfl, ?_⟩))
 go_ret2
 exact ⟨ev, dr⟩

/-! ### impl_packed: function 79 -/
def impl_packed.f (a0_0 : Int) (a0_1 : Int) (a0_2 : Int) (a0_3 : Int) : Option (Int) := some (Go.bits .or .u32 (Go.bits .or .u32 (Go.bits .or .u32 a0_2 ((((a0_1) % 4294967296) * 65536) % 4294967296)) ((((a0_0) % 4294967296) * 1048576) % 4294967296)) ((((a0_3) % 4294967296) * 16777216) % 4294967296))
set_option maxHeartbeats 8000000 in
set_option maxRecDepth 100000 in
theorem impl_packed.calls (a0_0 : Int) (a0_1 : Int) (a0_2 : Int) (a0_3 : Int) (r : Int) (w : World) (h : impl_packed.f a0_0 a0_1 a0_2 a0_3 = some r) :
  Calls Tryz.prog 79 #[.agg #[.int .i64 a0_0, .int .i64 a0_1, .int .u32 a0_2, .int .i64 a0_3]] w fun e w' => e = .returned (.int .u32 r) ∧ Below w.heap.size w w' := by
 have hu75 := Tryz.underlying75
 have HB := Aside0.mk (Below.refl w.heap.size w)
 unfold impl_packed.f at h
 have H := h
 clear h
 obtain rfl := Option.some.inj H
 go_enter Tryz.func79, Tryz.ntmps79
 go_wp2_with (first | ((with_reducible refine gd 1 ?_); refine bx 1 75 #[.int .i64 a0_0, .int .i64 a0_1, .int .u32 a0_2, .int .i64 a0_3] ?_; clear HB; intro gb390 w2 hg BK390 hb GE390 HB; clear hb hg; obtain ⟨z3_0, z3_1, z3_2, z3_3⟩ := ca4 BK390; obtain ⟨f3_0, f3_1, f3_2, f3_3⟩ := fa4 BK390))
 go_ret
 exact ⟨rt, bw⟩

/-! ### impl_HeldWord: function 46 -/
def impl_HeldWord.f  : Option (Int) := (impl_packed.f 3 0 0 0).bind fun t391 => (some t391)
set_option maxHeartbeats 8000000 in
set_option maxRecDepth 100000 in
theorem impl_HeldWord.calls  (r : Int) (w : World) (h : impl_HeldWord.f  = some r) :
  Calls Tryz.prog 46 #[] w fun e w' => e = .returned (.int .u32 r) ∧ Below w.heap.size w w' := by
 have hu75 := Tryz.underlying75
 have HB := Aside0.mk (Below.refl w.heap.size w)
 unfold impl_HeldWord.f at h
 have H := h
 clear h
 replace H := bn H
 obtain ⟨t391, A1, H⟩ := H
 try dsimp only at H
 obtain rfl := Option.some.inj H
 go_enter Tryz.func46, Tryz.ntmps46
 go_wp2_with (first | ((with_reducible refine gf 79 ?_); refine gc Tryz.func79 (some 2) (impl_packed.calls _ _ _ _ _ _ A1.out) ?_; rintro e w2 ⟨rfl, hb⟩; refine ⟨_, rfl, ?_⟩; replace HB := hs hb; try clear hb))
 go_ret
 exact ⟨rt, bw⟩

/-! ### impl_isClass: function 83 -/
def impl_isClass.f (a0 : Int) : Option (Bool) := (impl_within.f a0 0 4).bind fun t392 => (some t392)
set_option maxHeartbeats 8000000 in
set_option maxRecDepth 100000 in
theorem impl_isClass.calls (a0 : Int) (r : Bool) (w : World) (h : impl_isClass.f a0 = some r) :
  Calls Tryz.prog 83 #[.int .i64 a0] w fun e w' => e = .returned (.bool r) ∧ Drawn0 w w' := by
 unfold impl_isClass.f at h
 have H := h
 clear h
 replace H := bn H
 obtain ⟨t392, A2, H⟩ := H
 try dsimp only at H
 obtain rfl := Option.some.inj H
 go_enter Tryz.func83, Tryz.ntmps83
 go_wp2_with (first | ((with_reducible refine gf 21 ?_); refine gc Tryz.func21 (some 4) (impl_within.calls _ _ _ _ _ A2.out) ?_; rintro e w' ⟨rfl, ⟨nd, rfl⟩⟩; refine ⟨_, rfl, ?_⟩))
 go_ret
 exact ⟨ev, dr⟩

/-! ### impl_PerPage: function 97 -/
def impl_PerPage.f (a0 : Int) : Option (Int) := (impl_isClass.f a0).bind fun t393 => (if t393 = true then (if 0 ≤ a0 then (some (shr .i64 16 a0)) else (none)) else (some 0))
set_option maxHeartbeats 8000000 in
set_option maxRecDepth 100000 in
theorem impl_PerPage.calls (a0 : Int) (r : Int) (w : World) (h : impl_PerPage.f a0 = some r) :
  Calls Tryz.prog 97 #[.int .i64 a0] w fun e w' => e = .returned (.int .i64 r) ∧ Drawn0 w w' := by
 unfold impl_PerPage.f at h
 have H := h
 clear h
 replace H := bn H
 obtain ⟨t393, A2, H⟩ := H
 try dsimp only at H
 have HU3 := Aside0.mk H
 clear H
 go_enter Tryz.func97, Tryz.ntmps97
 go_upto_if 5 with (first | ((with_reducible refine gf 83 ?_); refine gc Tryz.func83 (some 4) (impl_isClass.calls _ _ _ A2.out) ?_; rintro e w' ⟨rfl, ⟨nd, rfl⟩⟩; refine ⟨_, rfl, ?_⟩))
 (try refine ap ?_)
 have H := HU3.out
 clear HU3
 replace H := ib H
 rcases H with ⟨rfl, H⟩ | ⟨rfl, H⟩
 ·(try simp only [Bool.not_true, Bool.not_false])
  by_cases c5 : 0 ≤ a0
  ·rw [if_pos c5] at H
   have c5b0 := eq_true c5
   have c5b1 : decide (0 ≤ a0) = true := decide_eq_true c5
   clear c5
   obtain ⟨ji6, hji6⟩ : ∃ j_ : Int, (shr .i64 16 a0) = j_ := ⟨_, rfl⟩
   first | rw [hji6] at H | simp only [hji6] at H
   have hji6_ : (16 / 2 ^ min a0.toNat 64) = ji6 := hji6
   have hji6z : a0 ≤ 64 → (16 / 2 ^ a0.toNat) = ji6 := shr_small hji6
   obtain rfl := Option.some.inj H
   go_wp2
   go_ret
   exact ⟨by first | rfl | (simp; done) | (simp only [← hji6] <;> (first | rfl | simp)) | (simp [*]; done), dr⟩
  ·rw [if_neg c5] at H
   exact absurd H (by simp)
 ·(try simp only [Bool.not_true, Bool.not_false])
  obtain rfl := Option.some.inj H
  go_wp2
  go_ret
  exact ⟨ev, dr⟩

/-! ### impl_isCtl: function 80 -/
def impl_isCtl.j0 : Nat → Int → Bool → Int → Int → Int → Int → Option (Bool)
 | 0, _, _, _, _, _, _ => none
 | k + 1, x4, x5, x395000, x395001, x395002, x395003 => if x5 = true then (some (x395001 == 0 && (x395002 == 0 && (x395003 == 0)))) else (if x4 = 1 then ((impl_isClass.f x395001).bind fun t395 => (if t395 = true then (if x395002 = 0 then (some false) else ((impl_PerPage.f x395001).bind fun t396 => (if 0 ≤ t396 then (if x395002 < (shl .u32 1 t396) then (some (x395003 == 0)) else (some false)) else (none)))) else (some false))) else (if x4 = 2 then ((impl_within.f x395003 2 16).bind fun t397 => (if t397 = true then (if x395001 = 0 then (some (x395002 == 0)) else (some false)) else (some false))) else (some false)))
def impl_isCtl.f (k : Nat) (a0_0 : Int) (a0_1 : Int) (a0_2 : Int) (a0_3 : Int) : Option (Bool) := if a0_0 = 0 then (impl_isCtl.j0 k a0_0 (a0_0 == 0) a0_0 a0_1 a0_2 a0_3) else (impl_isCtl.j0 k a0_0 (a0_0 == 3) a0_0 a0_1 a0_2 a0_3)
theorem impl_isCtl.mono_l : ∀ k, (∀ y0 y1 y2 y3 y4 y5, LeO (impl_isCtl.j0 k y0 y1 y2 y3 y4 y5) (impl_isCtl.j0 (k + 1) y0 y1 y2 y3 y4 y5))
 | 0 => fun _ _ _ _ _ _ r h => by simp [impl_isCtl.j0] at h
 | k + 1 => by
  have ih0 := impl_isCtl.mono_l k
  ·intro y0 y1 y2 y3 y4 y5
   unfold impl_isCtl.j0
   repeat' first
    | (with_reducible first | exact ih0 .. | exact LeO.refl _ | exact LeO.none _ | refine LeO.ite ?_ ?_ | refine LeO.bind ?_ (fun _ => ?_))
    | exact LeO.none _ | refine LeO.ite ?_ ?_ | refine LeO.bind ?_ (fun _ => ?_)
theorem impl_isCtl.mono : ∀ a0 a1 a2 a3 k, LeO (impl_isCtl.f k a0 a1 a2 a3) (impl_isCtl.f (k + 1) a0 a1 a2 a3) := by
 intro a0 a1 a2 a3 k
 have ih0 := impl_isCtl.mono_l k
 unfold impl_isCtl.f
 repeat' first
  | (with_reducible first | exact ih0 .. | exact LeO.refl _ | exact LeO.none _ | refine LeO.ite ?_ ?_ | refine LeO.bind ?_ (fun _ => ?_))
  | exact LeO.none _ | refine LeO.ite ?_ ?_ | refine LeO.bind ?_ (fun _ => ?_)
set_option maxHeartbeats 8000000 in
set_option maxRecDepth 100000 in
theorem impl_isCtl.calls (k : Nat) (a0_0 : Int) (a0_1 : Int) (a0_2 : Int) (a0_3 : Int) (r : Bool) (w : World) (h : impl_isCtl.f k a0_0 a0_1 a0_2 a0_3 = some r) :
  Calls Tryz.prog 80 #[.agg #[.int .i64 a0_0, .int .i64 a0_1, .int .u32 a0_2, .int .i64 a0_3]] w fun e w' => e = .returned (.bool r) ∧ Below w.heap.size w w' := by
 have hu75 := Tryz.underlying75
 have HB := Aside0.mk (Below.refl w.heap.size w)
 unfold impl_isCtl.f at h
 have H := h
 clear h
 have HC2 := Aside0.mk H
 clear H
 go_enter Tryz.func80, Tryz.ntmps80
 go_upto_if 5 with (first | ((with_reducible refine gd 1 ?_); refine bx 1 75 #[.int .i64 a0_0, .int .i64 a0_1, .int .u32 a0_2, .int .i64 a0_3] ?_; clear HB; intro gb394 w3 hg BK394 hb GE394 HB; clear hb hg; obtain ⟨z4_0, z4_1, z4_2, z4_3⟩ := ca4 BK394; obtain ⟨f4_0, f4_1, f4_2, f4_3⟩ := fa4 BK394))
 repeat (go_quiet (first | ((with_reducible refine gd 1 ?_); refine bx 1 75 #[.int .i64 a0_0, .int .i64 a0_1, .int .u32 a0_2, .int .i64 a0_3] ?_; clear HB; intro gb394 w3 hg BK394 hb GE394 HB; clear hb hg; obtain ⟨z4_0, z4_1, z4_2, z4_3⟩ := ca4 BK394; obtain ⟨f4_0, f4_1, f4_2, f4_3⟩ := fa4 BK394)); go_upto_if 5 with (first | ((with_reducible refine gd 1 ?_); refine bx 1 75 #[.int .i64 a0_0, .int .i64 a0_1, .int .u32 a0_2, .int .i64 a0_3] ?_; clear HB; intro gb394 w3 hg BK394 hb GE394 HB; clear hb hg; obtain ⟨z4_0, z4_1, z4_2, z4_3⟩ := ca4 BK394; obtain ⟨f4_0, f4_1, f4_2, f4_3⟩ := fa4 BK394)))
 (try refine ap ?_)
 go_cut [5] (fun v5 wc => ∃ (kq : Nat) (x5_1 : Bool), v5 = .bool x5_1 ∧ Aside0 (impl_isCtl.j0 kq a0_0 x5_1 a0_0 a0_1 a0_2 a0_3 = some r) ∧ Aside0 (kq ≤ k) ∧ Aside0 (wc.heap[gb394]? = some (.cells #[.int .i64 a0_0, .int .i64 a0_1, .int .u32 a0_2, .int .i64 a0_3] 75 (0, 0))) ∧ Aside0 (Below w.heap.size w wc))
 case first => as_aux_lemma =>
  have H := HC2.out
  clear HC2
  replace H := ieq H
  rcases H with ⟨c5b0, c5b1, H⟩ | ⟨c5, c5b0, c5b1, H⟩
  ·(first | rw [c5b0] | (simp only [i64_w, i32_w]; rw [c5b0]) | (simp only [c5b2, Bool.not_true, Bool.not_false]) | (simp only [c5b1, Bool.not_true, Bool.not_false]) | skip)
   have H' := Aside0.mk H
   clear H
   go_wp2
   repeat (go_quiet (fail); try go_wp2)
   go_meet
   case rel => exact ⟨_, ((a0_0 == 0)), ev, H', ⟨om⟩, ⟨bk BK394⟩, ⟨bw⟩⟩
  ·(first | rw [c5b0] | (simp only [i64_w, i32_w]; rw [c5b0]) | (simp only [c5b2, Bool.not_true, Bool.not_false]) | (simp only [c5b1, Bool.not_true, Bool.not_false]) | skip)
   have H' := Aside0.mk H
   clear H
   go_wp2
   repeat (go_quiet (fail); try go_wp2)
   go_meet
   case rel => exact ⟨_, ((a0_0 == 3)), ev, H', ⟨om⟩, ⟨bk BK394⟩, ⟨bw⟩⟩
 case rest => as_aux_lemma =>
  clear HC2
  (try clear z4_0 z4_1 z4_2 z4_3)
  (try clear f4_0 f4_1 f4_2 f4_3)
  obtain ⟨kq, x5_1, rfl, HA, HJ1, BK394, HB⟩ := hcut
  cases kq with
  | zero => exact absurd HA.out (by simp [impl_isCtl.j0])
  | succ kj1 =>
   have H := HA.out
   clear HA
   simp only [impl_isCtl.j0] at H
   replace H := ib H
   rcases H with ⟨rfl, H⟩ | ⟨rfl, H⟩
   ·obtain rfl := Option.some.inj H
    obtain ⟨z7_0, z7_1, z7_2, z7_3⟩ := ca4 BK394
    obtain ⟨f7_0, f7_1, f7_2, f7_3⟩ := fa4 BK394
    go_wp2
    repeat (go_quiet (fail); try go_wp2)
    go_ret
    exact ⟨rt, bw⟩
   ·replace H := ieq H
    rcases H with ⟨c8b0, c8b1, H⟩ | ⟨c8, c8b0, c8b1, H⟩
    ·replace H := bn H
     obtain ⟨t395, A9, H⟩ := H
     try dsimp only at H
     replace H := ib H
     rcases H with ⟨rfl, H⟩ | ⟨rfl, H⟩
     ·replace H := ieq H
      rcases H with ⟨c11b0, c11b1, H⟩ | ⟨c11, c11b0, c11b1, H⟩
      ·obtain rfl := Option.some.inj H
       obtain ⟨z12_0, z12_1, z12_2, z12_3⟩ := ca4 BK394
       obtain ⟨f12_0, f12_1, f12_2, f12_3⟩ := fa4 BK394
       go_wp2_with (first | (go_at_call 83; (with_reducible refine (impl_isClass.calls _ _ _ A9.out).mono ?_); rintro e w' ⟨rfl, ⟨nd, rfl⟩⟩; (try first | exact ⟨rfl, _, World.drewN_drewN _ _ _⟩ | exact ⟨rfl, _, Eq.trans (World.drewN_drewN _ _ _) (congrArg (World.drewN _) (Nat.add_assoc _ _ _))⟩)))
       repeat (go_quiet (first | (go_at_call 83; (with_reducible refine (impl_isClass.calls _ _ _ A9.out).mono ?_); rintro e w' ⟨rfl, ⟨nd, rfl⟩⟩; (try first | exact ⟨rfl, _, World.drewN_drewN _ _ _⟩ | exact ⟨rfl, _, Eq.trans (World.drewN_drewN _ _ _) (congrArg (World.drewN _) (Nat.add_assoc _ _ _))⟩))); try go_wp2_with (first | (go_at_call 83; (with_reducible refine (impl_isClass.calls _ _ _ A9.out).mono ?_); rintro e w' ⟨rfl, ⟨nd, rfl⟩⟩; (try first | exact ⟨rfl, _, World.drewN_drewN _ _ _⟩ | exact ⟨rfl, _, Eq.trans (World.drewN_drewN _ _ _) (congrArg (World.drewN _) (Nat.add_assoc _ _ _))⟩))))
       go_ret
       exact ⟨rt, bw⟩
      ·replace H := bn H
       obtain ⟨t396, A13, H⟩ := H
       try dsimp only at H
       by_cases c14 : 0 ≤ t396
       ·rw [if_pos c14] at H
        have c14b0 := eq_true c14
        have c14b1 : decide (0 ≤ t396) = true := decide_eq_true c14
        clear c14
        obtain ⟨ji15, hji15⟩ : ∃ j_ : Int, (shl .u32 1 t396) = j_ := ⟨_, rfl⟩
        first | rw [hji15] at H | simp only [hji15] at H
        (try rw [hji15] at A9)
        (try rw [hji15] at A13)
        have hji15_ : (IntKind.u32.wrap (1 * 2 ^ min t396.toNat 32)) = ji15 := hji15
        have hji15z : t396 ≤ 32 → (IntKind.u32.wrap (1 * 2 ^ t396.toNat)) = ji15 := shl_small hji15
        have hji15u : (IntKind.u32.wrap (2 ^ min t396.toNat 32)) = ji15 := by have h_ := hji15_; rw [Int.one_mul] at h_; exact h_
        have hji15v : t396 ≤ 32 → (IntKind.u32.wrap (2 ^ t396.toNat)) = ji15 := fun hle_ => by have h_ := hji15z hle_; rw [Int.one_mul] at h_; exact h_
        replace H := ilt H
        rcases H with ⟨c16b0, H⟩ | ⟨c16b0, H⟩
        ·obtain rfl := Option.some.inj H
         obtain ⟨z17_0, z17_1, z17_2, z17_3⟩ := ca4 BK394
         obtain ⟨f17_0, f17_1, f17_2, f17_3⟩ := fa4 BK394
         go_wp2_with (first | (go_at_call 83; (with_reducible refine (impl_isClass.calls _ _ _ A9.out).mono ?_); rintro e w' ⟨rfl, ⟨nd, rfl⟩⟩; (try first | exact ⟨rfl, _, World.drewN_drewN _ _ _⟩ | exact ⟨rfl, _, Eq.trans (World.drewN_drewN _ _ _) (congrArg (World.drewN _) (Nat.add_assoc _ _ _))⟩)) | (go_at_call 97; (with_reducible refine (impl_PerPage.calls _ _ _ A13.out).mono ?_); rintro e w' ⟨rfl, ⟨nd, rfl⟩⟩; (try first | exact ⟨rfl, _, World.drewN_drewN _ _ _⟩ | exact ⟨rfl, _, Eq.trans (World.drewN_drewN _ _ _) (congrArg (World.drewN _) (Nat.add_assoc _ _ _))⟩)))
         repeat (go_quiet (first | (go_at_call 83; (with_reducible refine (impl_isClass.calls _ _ _ A9.out).mono ?_); rintro e w' ⟨rfl, ⟨nd, rfl⟩⟩; (try first | exact ⟨rfl, _, World.drewN_drewN _ _ _⟩ | exact ⟨rfl, _, Eq.trans (World.drewN_drewN _ _ _) (congrArg (World.drewN _) (Nat.add_assoc _ _ _))⟩)) | (go_at_call 97; (with_reducible refine (impl_PerPage.calls _ _ _ A13.out).mono ?_); rintro e w' ⟨rfl, ⟨nd, rfl⟩⟩; (try first | exact ⟨rfl, _, World.drewN_drewN _ _ _⟩ | exact ⟨rfl, _, Eq.trans (World.drewN_drewN _ _ _) (congrArg (World.drewN _) (Nat.add_assoc _ _ _))⟩))); try go_wp2_with (first | (go_at_call 83; (with_reducible refine (impl_isClass.calls _ _ _ A9.out).mono ?_); rintro e w' ⟨rfl, ⟨nd, rfl⟩⟩; (try first | exact ⟨rfl, _, World.drewN_drewN _ _ _⟩ | exact ⟨rfl, _, Eq.trans (World.drewN_drewN _ _ _) (congrArg (World.drewN _) (Nat.add_assoc _ _ _))⟩)) | (go_at_call 97; (with_reducible refine (impl_PerPage.calls _ _ _ A13.out).mono ?_); rintro e w' ⟨rfl, ⟨nd, rfl⟩⟩; (try first | exact ⟨rfl, _, World.drewN_drewN _ _ _⟩ | exact ⟨rfl, _, Eq.trans (World.drewN_drewN _ _ _) (congrArg (World.drewN _) (Nat.add_assoc _ _ _))⟩))))
         go_ret
         exact ⟨by first | exact rt1 | (simp only [← hji15]; exact rt1) | exact rt, bw⟩
        ·obtain rfl := Option.some.inj H
         obtain ⟨z18_0, z18_1, z18_2, z18_3⟩ := ca4 BK394
         obtain ⟨f18_0, f18_1, f18_2, f18_3⟩ := fa4 BK394
         go_wp2_with (first | (go_at_call 83; (with_reducible refine (impl_isClass.calls _ _ _ A9.out).mono ?_); rintro e w' ⟨rfl, ⟨nd, rfl⟩⟩; (try first | exact ⟨rfl, _, World.drewN_drewN _ _ _⟩ | exact ⟨rfl, _, Eq.trans (World.drewN_drewN _ _ _) (congrArg (World.drewN _) (Nat.add_assoc _ _ _))⟩)) | (go_at_call 97; (with_reducible refine (impl_PerPage.calls _ _ _ A13.out).mono ?_); rintro e w' ⟨rfl, ⟨nd, rfl⟩⟩; (try first | exact ⟨rfl, _, World.drewN_drewN _ _ _⟩ | exact ⟨rfl, _, Eq.trans (World.drewN_drewN _ _ _) (congrArg (World.drewN _) (Nat.add_assoc _ _ _))⟩)))
         repeat (go_quiet (first | (go_at_call 83; (with_reducible refine (impl_isClass.calls _ _ _ A9.out).mono ?_); rintro e w' ⟨rfl, ⟨nd, rfl⟩⟩; (try first | exact ⟨rfl, _, World.drewN_drewN _ _ _⟩ | exact ⟨rfl, _, Eq.trans (World.drewN_drewN _ _ _) (congrArg (World.drewN _) (Nat.add_assoc _ _ _))⟩)) | (go_at_call 97; (with_reducible refine (impl_PerPage.calls _ _ _ A13.out).mono ?_); rintro e w' ⟨rfl, ⟨nd, rfl⟩⟩; (try first | exact ⟨rfl, _, World.drewN_drewN _ _ _⟩ | exact ⟨rfl, _, Eq.trans (World.drewN_drewN _ _ _) (congrArg (World.drewN _) (Nat.add_assoc _ _ _))⟩))); try go_wp2_with (first | (go_at_call 83; (with_reducible refine (impl_isClass.calls _ _ _ A9.out).mono ?_); rintro e w' ⟨rfl, ⟨nd, rfl⟩⟩; (try first | exact ⟨rfl, _, World.drewN_drewN _ _ _⟩ | exact ⟨rfl, _, Eq.trans (World.drewN_drewN _ _ _) (congrArg (World.drewN _) (Nat.add_assoc _ _ _))⟩)) | (go_at_call 97; (with_reducible refine (impl_PerPage.calls _ _ _ A13.out).mono ?_); rintro e w' ⟨rfl, ⟨nd, rfl⟩⟩; (try first | exact ⟨rfl, _, World.drewN_drewN _ _ _⟩ | exact ⟨rfl, _, Eq.trans (World.drewN_drewN _ _ _) (congrArg (World.drewN _) (Nat.add_assoc _ _ _))⟩))))
         go_ret
         exact ⟨by first | exact rt1 | (simp only [← hji15]; exact rt1) | exact rt, bw⟩
       ·rw [if_neg c14] at H
        exact absurd H (by simp)
     ·obtain rfl := Option.some.inj H
      obtain ⟨z19_0, z19_1, z19_2, z19_3⟩ := ca4 BK394
      obtain ⟨f19_0, f19_1, f19_2, f19_3⟩ := fa4 BK394
      go_wp2_with (first | (go_at_call 83; (with_reducible refine (impl_isClass.calls _ _ _ A9.out).mono ?_); rintro e w' ⟨rfl, ⟨nd, rfl⟩⟩; (try first | exact ⟨rfl, _, World.drewN_drewN _ _ _⟩ | exact ⟨rfl, _, Eq.trans (World.drewN_drewN _ _ _) (congrArg (World.drewN _) (Nat.add_assoc _ _ _))⟩)))
      repeat (go_quiet (first | (go_at_call 83; (with_reducible refine (impl_isClass.calls _ _ _ A9.out).mono ?_); rintro e w' ⟨rfl, ⟨nd, rfl⟩⟩; (try first | exact ⟨rfl, _, World.drewN_drewN _ _ _⟩ | exact ⟨rfl, _, Eq.trans (World.drewN_drewN _ _ _) (congrArg (World.drewN _) (Nat.add_assoc _ _ _))⟩))); try go_wp2_with (first | (go_at_call 83; (with_reducible refine (impl_isClass.calls _ _ _ A9.out).mono ?_); rintro e w' ⟨rfl, ⟨nd, rfl⟩⟩; (try first | exact ⟨rfl, _, World.drewN_drewN _ _ _⟩ | exact ⟨rfl, _, Eq.trans (World.drewN_drewN _ _ _) (congrArg (World.drewN _) (Nat.add_assoc _ _ _))⟩))))
      go_ret
      exact ⟨rt, bw⟩
    ·replace H := ieq H
     rcases H with ⟨c20b0, c20b1, H⟩ | ⟨c20, c20b0, c20b1, H⟩
     ·replace H := bn H
      obtain ⟨t397, A21, H⟩ := H
      try dsimp only at H
      replace H := ib H
      rcases H with ⟨rfl, H⟩ | ⟨rfl, H⟩
      ·replace H := ieq H
       rcases H with ⟨c23b0, c23b1, H⟩ | ⟨c23, c23b0, c23b1, H⟩
       ·obtain rfl := Option.some.inj H
        obtain ⟨z24_0, z24_1, z24_2, z24_3⟩ := ca4 BK394
        obtain ⟨f24_0, f24_1, f24_2, f24_3⟩ := fa4 BK394
        go_wp2_with (first | (go_at_call 21; (with_reducible refine (impl_within.calls _ _ _ _ _ A21.out).mono ?_); rintro e w' ⟨rfl, ⟨nd, rfl⟩⟩; (try first | exact ⟨rfl, _, World.drewN_drewN _ _ _⟩ | exact ⟨rfl, _, Eq.trans (World.drewN_drewN _ _ _) (congrArg (World.drewN _) (Nat.add_assoc _ _ _))⟩)))
        repeat (go_quiet (first | (go_at_call 21; (with_reducible refine (impl_within.calls _ _ _ _ _ A21.out).mono ?_); rintro e w' ⟨rfl, ⟨nd, rfl⟩⟩; (try first | exact ⟨rfl, _, World.drewN_drewN _ _ _⟩ | exact ⟨rfl, _, Eq.trans (World.drewN_drewN _ _ _) (congrArg (World.drewN _) (Nat.add_assoc _ _ _))⟩))); try go_wp2_with (first | (go_at_call 21; (with_reducible refine (impl_within.calls _ _ _ _ _ A21.out).mono ?_); rintro e w' ⟨rfl, ⟨nd, rfl⟩⟩; (try first | exact ⟨rfl, _, World.drewN_drewN _ _ _⟩ | exact ⟨rfl, _, Eq.trans (World.drewN_drewN _ _ _) (congrArg (World.drewN _) (Nat.add_assoc _ _ _))⟩))))
        go_ret
        exact ⟨rt, bw⟩
       ·obtain rfl := Option.some.inj H
        obtain ⟨z25_0, z25_1, z25_2, z25_3⟩ := ca4 BK394
        obtain ⟨f25_0, f25_1, f25_2, f25_3⟩ := fa4 BK394
        go_wp2_with (first | (go_at_call 21; (with_reducible refine (impl_within.calls _ _ _ _ _ A21.out).mono ?_); rintro e w' ⟨rfl, ⟨nd, rfl⟩⟩; (try first | exact ⟨rfl, _, World.drewN_drewN _ _ _⟩ | exact ⟨rfl, _, Eq.trans (World.drewN_drewN _ _ _) (congrArg (World.drewN _) (Nat.add_assoc _ _ _))⟩)))
        repeat (go_quiet (first | (go_at_call 21; (with_reducible refine (impl_within.calls _ _ _ _ _ A21.out).mono ?_); rintro e w' ⟨rfl, ⟨nd, rfl⟩⟩; (try first | exact ⟨rfl, _, World.drewN_drewN _ _ _⟩ | exact ⟨rfl, _, Eq.trans (World.drewN_drewN _ _ _) (congrArg (World.drewN _) (Nat.add_assoc _ _ _))⟩))); try go_wp2_with (first | (go_at_call 21; (with_reducible refine (impl_within.calls _ _ _ _ _ A21.out).mono ?_); rintro e w' ⟨rfl, ⟨nd, rfl⟩⟩; (try first | exact ⟨rfl, _, World.drewN_drewN _ _ _⟩ | exact ⟨rfl, _, Eq.trans (World.drewN_drewN _ _ _) (congrArg (World.drewN _) (Nat.add_assoc _ _ _))⟩))))
        go_ret
        exact ⟨rt, bw⟩
      ·obtain rfl := Option.some.inj H
       obtain ⟨z26_0, z26_1, z26_2, z26_3⟩ := ca4 BK394
       obtain ⟨f26_0, f26_1, f26_2, f26_3⟩ := fa4 BK394
       go_wp2_with (first | (go_at_call 21; (with_reducible refine (impl_within.calls _ _ _ _ _ A21.out).mono ?_); rintro e w' ⟨rfl, ⟨nd, rfl⟩⟩; (try first | exact ⟨rfl, _, World.drewN_drewN _ _ _⟩ | exact ⟨rfl, _, Eq.trans (World.drewN_drewN _ _ _) (congrArg (World.drewN _) (Nat.add_assoc _ _ _))⟩)))
       repeat (go_quiet (first | (go_at_call 21; (with_reducible refine (impl_within.calls _ _ _ _ _ A21.out).mono ?_); rintro e w' ⟨rfl, ⟨nd, rfl⟩⟩; (try first | exact ⟨rfl, _, World.drewN_drewN _ _ _⟩ | exact ⟨rfl, _, Eq.trans (World.drewN_drewN _ _ _) (congrArg (World.drewN _) (Nat.add_assoc _ _ _))⟩))); try go_wp2_with (first | (go_at_call 21; (with_reducible refine (impl_within.calls _ _ _ _ _ A21.out).mono ?_); rintro e w' ⟨rfl, ⟨nd, rfl⟩⟩; (try first | exact ⟨rfl, _, World.drewN_drewN _ _ _⟩ | exact ⟨rfl, _, Eq.trans (World.drewN_drewN _ _ _) (congrArg (World.drewN _) (Nat.add_assoc _ _ _))⟩))))
       go_ret
       exact ⟨rt, bw⟩
     ·obtain rfl := Option.some.inj H
      go_wp2
      repeat (go_quiet (fail); try go_wp2)
      go_ret
      exact ⟨rt, bw⟩

/-! ### impl_CtlRead: function 47 -/
def impl_CtlRead.f (k : Nat) (a0 : Int) : Option (Int × Int × Int × Int × Bool) := (impl_isCtl.f k (wrap64 (Go.bits .and .u32 (a0 / 1048576) 15)) (wrap64 (Go.bits .and .u32 (a0 / 65536) 15)) (Go.bits .and .u32 a0 65535) (wrap64 (a0 / 16777216))).bind fun t400 => (if t400 = true then (some (wrap64 (Go.bits .and .u32 (a0 / 1048576) 15), wrap64 (Go.bits .and .u32 (a0 / 65536) 15), Go.bits .and .u32 a0 65535, wrap64 (a0 / 16777216), true)) else (some (0, 0, 0, 0, false)))
theorem impl_CtlRead.mono : ∀ a0 k, LeO (impl_CtlRead.f k a0) (impl_CtlRead.f (k + 1) a0) := by
 intro a0 k
 unfold impl_CtlRead.f
 repeat' first
  | (with_reducible first | exact impl_isCtl.mono .. | exact LeO.refl _ | exact LeO.none _ | refine LeO.ite ?_ ?_ | refine LeO.bind ?_ (fun _ => ?_))
  | exact LeO.none _ | refine LeO.ite ?_ ?_ | refine LeO.bind ?_ (fun _ => ?_)
set_option maxHeartbeats 8000000 in
set_option maxRecDepth 100000 in
theorem impl_CtlRead.calls (k : Nat) (a0 : Int) (r1 : Int) (r2 : Int) (r3 : Int) (r4 : Int) (r5 : Bool) (w : World) (h : impl_CtlRead.f k a0 = some (r1, r2, r3, r4, r5)) :
  Calls Tryz.prog 47 #[.int .u32 a0] w fun e w' => e = .returned (.tuple #[.agg #[.int .i64 r1, .int .i64 r2, .int .u32 r3, .int .i64 r4], .bool r5]) ∧ Below w.heap.size w w' := by
 have hu75 := Tryz.underlying75
 have HB := Aside0.mk (Below.refl w.heap.size w)
 unfold impl_CtlRead.f at h
 have H := h
 clear h
 replace H := bn H
 obtain ⟨t400, A2, H⟩ := H
 try dsimp only at H
 have HU3 := Aside0.mk H
 clear H
 go_enter Tryz.func47, Tryz.ntmps47
 go_upto_if 21 with (first | ((with_reducible refine gd 2 ?_); refine bx 2 75 #[.int .i64 0, .int .i64 0, .int .u32 0, .int .i64 0] ?_; clear HB; intro gb398 w4 hg BK398 hb GE398 HB; clear hb hg) | ((with_reducible refine gd 4 ?_); refine bx 4 75 #[.int .i64 0, .int .i64 0, .int .u32 0, .int .i64 0] ?_; clear HB; intro gb399 w5 hg BK399 hb GE399 HB; have NB398_399 := nl BK398 hg; have NB399_398 := ng BK398 hg; replace BK398 := b_ BK398 hb; clear hb hg; have hnb6 := NB399_398.out; have hnc6 := NB398_399.out; obtain ⟨z7_0, z7_1, z7_2, z7_3⟩ := ca4 BK399; obtain ⟨f7_0, f7_1, f7_2, f7_3⟩ := fa4 BK399) | ((with_reducible refine gf 80 ?_); refine gc Tryz.func80 (some 20) (impl_isCtl.calls _ _ _ _ _ _ _ A2.out) ?_; rintro e w8 ⟨rfl, hb⟩; refine ⟨_, rfl, ?_⟩; replace BK398 := b_ BK398 hb; replace BK399 := bq BK399 #[.int .i64 (wrap64 (Go.bits .and .u32 (a0 / 1048576) 15)), .int .i64 (wrap64 (Go.bits .and .u32 (a0 / 65536) 15)), .int .u32 (Go.bits .and .u32 a0 65535), .int .i64 (wrap64 (a0 / 16777216))] hb; replace HB := hs hb; try clear hb))
 (try refine ap ?_)
 have H := HU3.out
 clear HU3
 replace H := ib H
 rcases H with ⟨rfl, H⟩ | ⟨rfl, H⟩
 ·(try simp only [Bool.not_true, Bool.not_false])
  simp only [Option.some.injEq, Prod.mk.injEq] at H
  obtain ⟨rfl, rfl, rfl, rfl, rfl⟩ := H
  have hnb10 := NB399_398.out
  have hnc10 := NB398_399.out
  obtain ⟨z11_0, z11_1, z11_2, z11_3⟩ := ca4 BK399
  obtain ⟨f11_0, f11_1, f11_2, f11_3⟩ := fa4 BK399
  obtain ⟨z12_0, z12_1, z12_2, z12_3⟩ := ca4 BK398
  obtain ⟨f12_0, f12_1, f12_2, f12_3⟩ := fa4 BK398
  go_wp2
  refine bodyPost_ret (results_ct rfl _ _ gb398 75 #[.int .i64 (wrap64 (Go.bits .and .u32 (a0 / 1048576) 15)), .int .i64 (wrap64 (Go.bits .and .u32 (a0 / 65536) 15)), .int .u32 (Go.bits .and .u32 a0 65535), .int .i64 (wrap64 (a0 / 16777216))] (0, 0) _ rfl (bp BK398) Tryz.underlying75 rfl kr) rfl ?_
  exact ⟨rt, bw⟩
 ·(try simp only [Bool.not_true, Bool.not_false])
  simp only [Option.some.injEq, Prod.mk.injEq] at H
  obtain ⟨rfl, rfl, rfl, rfl, rfl⟩ := H
  have hnb13 := NB398_399.out
  have hnc13 := NB399_398.out
  obtain ⟨z14_0, z14_1, z14_2, z14_3⟩ := ca4 BK398
  obtain ⟨f14_0, f14_1, f14_2, f14_3⟩ := fa4 BK398
  go_wp2
  refine bodyPost_ret (results_ct rfl _ _ gb398 75 #[.int .i64 0, .int .i64 0, .int .u32 0, .int .i64 0] (0, 0) _ rfl (bp BK398) Tryz.underlying75 rfl kr) rfl ?_
  exact ⟨rt, bw⟩

end Go.Proofs.YtobboonnfocalaaGreatDoor.PG1
namespace Go.Proofs.YtobboonnfocalaaGreatDoor.PG1
open Go.RowKit Go.Proofs.YtobboonnfocalaaGreatDoorW.PrintWords Go.Proofs.YtobboonnfocalaaGreatDoorW.PrintLast Go.Proofs.YtobboonnfocalaaGreatDoorW.PrintMore Go.Proofs.YtobboonnfocalaaGreatDoor.T
attribute [local go_sem] max2_int min2_int max_two min_two max_three min_three max_four min_four   -- for this text's walks alone
set_option linter.unusedVariables false
set_option linter.unusedSimpArgs false

/-! ### impl_BitList: function 49 -/
def impl_BitList.l0 : Nat → Int → List Int → Int → Option (List Int)
 | 0, _, _, _ => none
 | k + 1, x0, x3, x5 => if x5 < 32 then (if 0 ≤ x5 then (if (Go.bits .and .u32 (shr .u32 x0 x5) 1) = 1 then (if x3.length < 17592186044416 then (impl_BitList.l0 k x0 (x3 ++ [x5]) (wrap64 (x5 + 1))) else (none)) else (impl_BitList.l0 k x0 x3 (wrap64 (x5 + 1)))) else (none)) else (some x3)
def impl_BitList.f (k : Nat) (a0 : Int) : Option (List Int) := impl_BitList.l0 k a0 ([] : List Int) 0
theorem impl_BitList.mono_l : ∀ k, (∀ y0 y1 y2, LeO (impl_BitList.l0 k y0 y1 y2) (impl_BitList.l0 (k + 1) y0 y1 y2))
 | 0 => fun _ _ _ r h => by simp [impl_BitList.l0] at h
 | k + 1 => by
  have ih0 := impl_BitList.mono_l k
  ·intro y0 y1 y2
   unfold impl_BitList.l0
   repeat' first
    | (with_reducible first | exact ih0 .. | exact LeO.refl _ | exact LeO.none _ | refine LeO.ite ?_ ?_ | refine LeO.bind ?_ (fun _ => ?_))
    | exact LeO.none _ | refine LeO.ite ?_ ?_ | refine LeO.bind ?_ (fun _ => ?_)
theorem impl_BitList.mono : ∀ a0 k, LeO (impl_BitList.f k a0) (impl_BitList.f (k + 1) a0) := by
 intro a0 k
 have ih0 := impl_BitList.mono_l k
 unfold impl_BitList.f
 repeat' first
  | (with_reducible first | exact ih0 .. | exact LeO.refl _ | exact LeO.none _ | refine LeO.ite ?_ ?_ | refine LeO.bind ?_ (fun _ => ?_))
  | exact LeO.none _ | refine LeO.ite ?_ ?_ | refine LeO.bind ?_ (fun _ => ?_)
set_option maxHeartbeats 2000000 in
set_option maxRecDepth 100000 in
theorem impl_BitList.calls (k : Nat) (a0 : Int) (r : List Int) (w : World) (h : impl_BitList.f k a0 = some r) :
  Calls Tryz.prog 49 #[.int .u32 a0] w fun e w' => ∃ v0_ : Value, e = .returned (v0_) ∧ Kd.R (Kd.int .i64) 3 w' w.heap.size (fun _ => True) v0_ r ∧ Below w.heap.size w w' := by
 have HB := Aside0.mk (Below.refl w.heap.size w)
 unfold impl_BitList.f at h
 have H := h
 clear h
 have H' := Aside0.mk H
 clear H
 go_enter Tryz.func49, Tryz.ntmps49
 go_wp2
 go_loopg [3, 5] k (fun kq v3 v5 w' => ∃ (x3_1 : List Int) (x5_1 : Int), v5 = .int .i64 x5_1 ∧ Aside0 (impl_BitList.l0 kq a0 x3_1 x5_1 = some r) ∧ Aside0 (kq ≤ k) ∧ Aside0 (Kd.R (Kd.int .i64) 3 w' w.heap.size (fun _ => True) v3 x3_1) ∧ Aside0 (Below w.heap.size w w'))
 case atStart => exact ⟨(([] : List Int)), (0), ev, H', ⟨Nat.le_refl _⟩, ⟨by first | exact Kd.R_nil _ _ _ _ _ | exact Kd.N_nil _ _ _ _ _ | exact Kd.V_nil _ _ _ _ _ | exact Kd.Q_nil _ _ _ _ _ | exact Kd.S_nil _ _ _ _ _⟩, ⟨bw⟩⟩
 case round =>
  clear H'
  obtain ⟨x3_1, x5_1, rfl, HA, HK1, HO_3, HB⟩ := hrel
  cases gk with
  | zero => exact absurd HA.out (by simp [impl_BitList.l0])
  | succ k1 =>
   have H := HA.out
   clear HA
   simp only [impl_BitList.l0] at H
   replace H := ilt H
   rcases H with ⟨c2b0, H⟩ | ⟨c2b0, H⟩
   ·by_cases c3 : 0 ≤ x5_1
    ·rw [if_pos c3] at H
     have c3b0 := eq_true c3
     have c3b1 : decide (0 ≤ x5_1) = true := decide_eq_true c3
     clear c3
     obtain ⟨ji4, hji4⟩ : ∃ j_ : Int, (shr .u32 a0 x5_1) = j_ := ⟨_, rfl⟩
     first | rw [hji4] at H | simp only [hji4] at H
     have hji4_ : (a0 / 2 ^ min x5_1.toNat 32) = ji4 := hji4
     have hji4z : x5_1 ≤ 32 → (a0 / 2 ^ x5_1.toNat) = ji4 := shr_small hji4
     replace H := ieq H
     rcases H with ⟨c5b0, c5b1, H⟩ | ⟨c5, c5b0, c5b1, H⟩
     ·by_cases c6 : x3_1.length < 17592186044416
      ·rw [if_pos c6] at H
       have LMc6 := Aside0.mk c6
       clear c6
       obtain ⟨y401, hy401⟩ : ∃ y_ : List Int, y_ = (x3_1 ++ [x5_1]) := ⟨_, rfl⟩
       rw [← hy401] at H
       try with_reducible replace H := bs H
       have Ny401 := Aside0.mk hy401
       clear hy401
       have H' := Aside0.mk H
       clear H
       go_wp2_with (first | ((with_reducible refine gate_builtin (b := .append) (xs := #[.tmp 13, .tmp 15]) rfl ?_); at_builtin; refine Kd.R_append (Kd.int .i64) (w0 := w) w.heap.size rfl (.tmp 13) (.tmp 15) 29 3 (.int .i64 0) 8 rfl Tryz.underlying29 info3 rfl (by decide) (by omega) u3 x3_1 x5_1 [.int .i64 x5_1] (fun _ => True) (fun _ => False) rfl rfl ?aP (fun _ hk => hk.elim) ?aF ?aO ?aB ?aS ?aL ?_; (case aP => exact rfl); (case aB => exact bw); (case aF => exact (fun _ _ => trivial)); (case aO => exact (ro HO_3)); (case aS => exact (below_size bw)); (case aL => have := LMc6.out; omega); intro v402 w7 ho hb hg hat; rw [← Ny401.out] at ho; have HO403 := Aside0.mk (ho); replace HB := Aside0.mk (hb); clear HO_3; clear ho hb hg hat))
       go_roundg k1
       case measure => have := HK1.out; omega
       case rel => exact ⟨(y401), (wrap64 (x5_1 + 1)), ev, H', ⟨oa HK1⟩, ⟨ro HO403⟩, ⟨bw⟩⟩
      ·rw [if_neg c6] at H
       exact absurd H (by simp)
     ·have H' := Aside0.mk H
      clear H
      go_wp2
      go_roundg k1
      case measure => have := HK1.out; omega
      case rel => exact ⟨(x3_1), (wrap64 (x5_1 + 1)), ev, H', ⟨oa HK1⟩, ⟨ro HO_3⟩, ⟨bw⟩⟩
    ·rw [if_neg c3] at H
     exact absurd H (by simp)
   ·obtain rfl := Option.some.inj H
    go_wp2
    go_ret
    exact ⟨_, rt, ro HO_3, bw⟩

/-! ### impl_ClassSize: function 50 -/
def impl_ClassSize.f (a0 : Int) : Option (Int) := (impl_isClass.f a0).bind fun t404 => (if t404 = true then (if 0 ≤ a0 then (some (shl .i64 1 a0)) else (none)) else (some 0))
set_option maxHeartbeats 2000000 in
set_option maxRecDepth 100000 in
theorem impl_ClassSize.calls (a0 : Int) (r : Int) (w : World) (h : impl_ClassSize.f a0 = some r) :
  Calls Tryz.prog 50 #[.int .i64 a0] w fun e w' => e = .returned (.int .i64 r) ∧ Drawn0 w w' := by
 unfold impl_ClassSize.f at h
 have H := h
 clear h
 replace H := bn H
 obtain ⟨t404, A2, H⟩ := H
 try dsimp only at H
 have HU3 := Aside0.mk H
 clear H
 go_enter Tryz.func50, Tryz.ntmps50
 go_upto_if 5 with (first | ((with_reducible refine gf 83 ?_); refine gc Tryz.func83 (some 4) (impl_isClass.calls _ _ _ A2.out) ?_; rintro e w' ⟨rfl, ⟨nd, rfl⟩⟩; refine ⟨_, rfl, ?_⟩))
 (try refine ap ?_)
 have H := HU3.out
 clear HU3
 replace H := ib H
 rcases H with ⟨rfl, H⟩ | ⟨rfl, H⟩
 ·(try simp only [Bool.not_true, Bool.not_false])
  by_cases c5 : 0 ≤ a0
  ·rw [if_pos c5] at H
   have c5b0 := eq_true c5
   have c5b1 : decide (0 ≤ a0) = true := decide_eq_true c5
   clear c5
   obtain ⟨ji6, hji6⟩ : ∃ j_ : Int, (shl .i64 1 a0) = j_ := ⟨_, rfl⟩
   first | rw [hji6] at H | simp only [hji6] at H
   have hji6_ : (IntKind.i64.wrap (1 * 2 ^ min a0.toNat 64)) = ji6 := hji6
   have hji6z : a0 ≤ 64 → (IntKind.i64.wrap (1 * 2 ^ a0.toNat)) = ji6 := shl_small hji6
   have hji6u : (IntKind.i64.wrap (2 ^ min a0.toNat 64)) = ji6 := by have h_ := hji6_; rw [Int.one_mul] at h_; exact h_
   have hji6v : a0 ≤ 64 → (IntKind.i64.wrap (2 ^ a0.toNat)) = ji6 := fun hle_ => by have h_ := hji6z hle_; rw [Int.one_mul] at h_; exact h_
   have hji6y : (wrap64 (1 * 2 ^ min a0.toNat 64)) = ji6 := (i64_w _).symm.trans hji6_
   have hji6x : a0 ≤ 64 → (wrap64 (1 * 2 ^ a0.toNat)) = ji6 := fun h_ => (i64_w _).symm.trans (hji6z h_)
   obtain rfl := Option.some.inj H
   go_wp2
   go_ret
   exact ⟨by first | rfl | (simp; done) | (simp only [← hji6] <;> (first | rfl | simp)) | (simp [*]; done), dr⟩
  ·rw [if_neg c5] at H
   exact absurd H (by simp)
 ·(try simp only [Bool.not_true, Bool.not_false])
  obtain rfl := Option.some.inj H
  go_wp2
  go_ret
  exact ⟨ev, dr⟩

/-! ### impl_audit: function 23 -/
mutual
def impl_audit.l0 : Nat → List (S55) → List Int → Int → Int → Option ((List (S55)))
 | 0, _, _, _, _ => none
 | k + 1, x3, x11, x12, x13 => if x13 < x12 then (if 0 ≤ x13 then (if x13 < (x11.length : Int) then ((impl_CtlRead.f k (rd x11 x13)).bind fun bt407 => (if bt407.1 = 1 then ((impl_BitList.f k bt407.2.2.1).bind fun t413 => (impl_audit.l1 k x3 x13 x11 x12 x13 t413 (t413.length : Int) 0 bt407.1 bt407.2.1 bt407.2.2.1 bt407.2.2.2.1)) else (if bt407.1 = 2 then (if x3.length < 8796093022208 then (impl_audit.l0 k (x3 ++ [(⟨wrap64 (x13 * 16), wrap64 (bt407.2.2.2.1 * 16)⟩ : S55)]) x11 x12 (wrap64 (x13 + 1))) else (none)) else (impl_audit.l0 k x3 x11 x12 (wrap64 (x13 + 1)))))) else (none)) else (none)) else (some x3)
def impl_audit.l1 : Nat → List (S55) → Int → List Int → Int → Int → List Int → Int → Int → Int → Int → Int → Int → Option ((List (S55)))
 | 0, _, _, _, _, _, _, _, _, _, _, _, _ => none
 | k + 1, x3, x4, x11, x12, x13, x29, x30, x31, x413000, x413001, x413002, x413003 => if x31 < x30 then (if 0 ≤ x31 then (if x31 < (x29.length : Int) then (if 0 ≤ x413001 then ((impl_ClassSize.f x413001).bind fun t417 => (if x3.length < 8796093022208 then (impl_audit.l1 k (x3 ++ [(⟨wrap64 ((wrap64 (x4 * 16)) + (shl .i64 (rd x29 x31) x413001)), t417⟩ : S55)]) x4 x11 x12 x13 x29 x30 (wrap64 (x31 + 1)) x413000 x413001 x413002 x413003) else (none))) else (none)) else (none)) else (none)) else (impl_audit.l0 k x3 x11 x12 (wrap64 (x13 + 1)))
end
def impl_audit.f (k : Nat) (l0_0 : List Int) : Option ((List (S55))) := impl_audit.l0 k ([] : List (S55)) l0_0 (l0_0.length : Int) 0
theorem impl_audit.mono_l : ∀ k, (∀ y0 y1 y2 y3, LeO (impl_audit.l0 k y0 y1 y2 y3) (impl_audit.l0 (k + 1) y0 y1 y2 y3)) ∧ (∀ y0 y1 y2 y3 y4 y5 y6 y7 y8 y9 y10 y11, LeO (impl_audit.l1 k y0 y1 y2 y3 y4 y5 y6 y7 y8 y9 y10 y11) (impl_audit.l1 (k + 1) y0 y1 y2 y3 y4 y5 y6 y7 y8 y9 y10 y11))
 | 0 => ⟨fun _ _ _ _ r h => by simp [impl_audit.l0] at h, fun _ _ _ _ _ _ _ _ _ _ _ _ r h => by simp [impl_audit.l1] at h⟩
 | k + 1 => by
  obtain ⟨ih0, ih1⟩ := impl_audit.mono_l k
  refine ⟨?_, ?_⟩
  ·intro y0 y1 y2 y3
   unfold impl_audit.l0
   repeat' first
    | (with_reducible first | exact ih0 .. | exact ih1 .. | exact impl_BitList.mono .. | exact impl_CtlRead.mono .. | exact LeO.refl _ | exact LeO.none _ | refine LeO.ite ?_ ?_ | refine LeO.bind ?_ (fun _ => ?_))
    | exact LeO.none _ | refine LeO.ite ?_ ?_ | refine LeO.bind ?_ (fun _ => ?_)
  ·intro y0 y1 y2 y3 y4 y5 y6 y7 y8 y9 y10 y11
   unfold impl_audit.l1
   repeat' first
    | (with_reducible first | exact ih0 .. | exact ih1 .. | exact impl_BitList.mono .. | exact impl_CtlRead.mono .. | exact LeO.refl _ | exact LeO.none _ | refine LeO.ite ?_ ?_ | refine LeO.bind ?_ (fun _ => ?_))
    | exact LeO.none _ | refine LeO.ite ?_ ?_ | refine LeO.bind ?_ (fun _ => ?_)
theorem impl_audit.mono : ∀ a0 k, LeO (impl_audit.f k a0) (impl_audit.f (k + 1) a0) := by
 intro a0 k
 obtain ⟨ih0, ih1⟩ := impl_audit.mono_l k
 unfold impl_audit.f
 repeat' first
  | (with_reducible first | exact ih0 .. | exact ih1 .. | exact impl_BitList.mono .. | exact impl_CtlRead.mono .. | exact LeO.refl _ | exact LeO.none _ | refine LeO.ite ?_ ?_ | refine LeO.bind ?_ (fun _ => ?_))
  | exact LeO.none _ | refine LeO.ite ?_ ?_ | refine LeO.bind ?_ (fun _ => ?_)
def impl_audit.T11 : Bool × List (List Nat × List Nat) := (true, [([], []), ([], []), ([1], [1]), ([], []), ([], []), ([4], [4]), ([3, 5], [3, 5]), ([2, 6], [2, 6]), ([], []), ([8], [8]), ([9], [9]), ([7, 10], [7, 10]), ([11], [11]), ([0, 12, 10], [0, 12]), ([13, 13, 0, 1, 2, 3, 4, 5, 6, 7, 8, 9, 10, 11, 12, 13], [0, 13])])
def impl_audit.B11 : List Nat := [0, 0, 2, 0, 0, 16, 56, 126, 0, 256, 768, 2046, 4094, 8191, 16383]
theorem impl_audit.tab11 : rtab .any (opsOf Tryz.f23 11) = impl_audit.T11 := kr
theorem impl_audit.bits11 : waitsOk impl_audit.T11.2 impl_audit.B11 = true := kr
set_option maxHeartbeats 2000000 in
set_option maxRecDepth 100000 in
theorem impl_audit.calls (k : Nat) (A0_0 : Option Addr) (c0_0 : Nat) (l0_0 : List Int) (r : List (S55)) (w : World) (hr0_0 : Kd.C (Kd.int .u32) w A0_0 l0_0.length l0_0) (hc0_0 : l0_0.length ≤ c0_0) (h : impl_audit.f k l0_0 = some r) :
  Calls Tryz.prog 23 #[.agg #[.slice A0_0 l0_0.length c0_0]] w fun e w' => ∃ v0_ : Value, e = .returned (v0_) ∧ Kd.R k55 55 w' w.heap.size (fun _ => True) v0_ r ∧ Below w.heap.size w w' := by
 have hu34 := Tryz.underlying34
 have hu75 := Tryz.underlying75
 have hu55 := Tryz.underlying55
 have HR0_0 := Aside0.mk hr0_0
 have HC0_0 := Aside0.mk hc0_0
 clear hr0_0 hc0_0
 have HB := Aside0.mk (Below.refl w.heap.size w)
 unfold impl_audit.f at h
 have H := h
 clear h
 have H' := Aside0.mk H
 clear H
 go_enter Tryz.func23, Tryz.ntmps23
 go_wp2_with (first | ((with_reducible refine gd 1 ?_); refine bx 1 34 #[.slice A0_0 l0_0.length c0_0] ?_; clear HB; intro gb405 w2 hg BK405 hb GE405 HB; clear hb hg; have z3_0 := ca1 BK405; have f3_0 := blk_frozen BK405.out 0))
 go_loopg [3, 13] k (fun kq v3 v13 w' => ∃ (x3_1 : List (S55)) (x13_1 : Int), v13 = .int .i64 x13_1 ∧ Aside0 (impl_audit.l0 kq x3_1 l0_0 (l0_0.length : Int) x13_1 = some r) ∧ Aside0 (kq ≤ k) ∧ Aside0 (Kd.R k55 55 w' w.heap.size (fun _ => True) v3 x3_1) ∧ Aside0 (w'.heap[gb405]? = some (.cells #[(.slice A0_0 l0_0.length c0_0)] 34 (0, 0))) ∧ Aside0 (Below w.heap.size w w'))
 case atStart => exact ⟨(([] : List (S55))), (0), ev, H', ⟨Nat.le_refl _⟩, ⟨by first | exact Kd.R_nil _ _ _ _ _ | exact Kd.N_nil _ _ _ _ _ | exact Kd.V_nil _ _ _ _ _ | exact Kd.Q_nil _ _ _ _ _ | exact Kd.S_nil _ _ _ _ _⟩, ⟨bk BK405⟩, ⟨bw⟩⟩
 case round =>
  clear H'
  (try clear z3_0)
  (try clear f3_0)
  obtain ⟨x3_1, x13_1, rfl, HA, HK1, HO_3, BK405, HB⟩ := hrel
  cases gk with
  | zero => exact absurd HA.out (by simp [impl_audit.l0])
  | succ k1 =>
   have H := HA.out
   clear HA
   simp only [impl_audit.l0] at H
   replace H := ilt H
   rcases H with ⟨c4b0, H⟩ | ⟨c4b0, H⟩
   ·by_cases c5 : 0 ≤ x13_1
    ·rw [if_pos c5] at H
     have c5b0 : decide (0 ≤ x13_1) = true := decide_eq_true c5
     clear c5
     by_cases c6 : x13_1 < (l0_0.length : Int)
     ·rw [if_pos c6] at H
      have c6b0 : decide (x13_1 < (l0_0.length : Int)) = true := decide_eq_true c6
      clear c6
      replace H := bn H
      obtain ⟨⟨t407, t408, t409, t410, t411⟩, A7, H⟩ := H
      try dsimp only at H
      have HU8 := Aside0.mk H
      clear H
      have p406 : 0 ≤ (x13_1 : Int) := of_decide_eq_true as_
      have q406 : x13_1 < (l0_0.length : Int) := of_decide_eq_true as_
      obtain ⟨ad406, e406, hx406_0⟩ := Kd.at_int HR0_0.out x13_1 p406 q406
      cases e406
      replace hx406_0 := cl HB hx406_0
      replace p406 := eq_true p406
      replace q406 := eq_true q406
      go_upto_if 25 with (first | ((with_reducible refine gf 47 ?_); refine gc Tryz.func47 (some 20) (impl_CtlRead.calls _ _ _ _ _ _ _ _ A7.out) ?_; rintro e w9 ⟨rfl, hb⟩; refine ⟨_, rfl, ?_⟩; replace HO_3 := Aside0.mk (Kd.R_below (ro HO_3) hb); replace BK405 := b_ BK405 hb; replace HB := hs hb; try clear hb) | ((with_reducible refine gd 6 ?_); refine bx 6 75 #[.int .i64 0, .int .i64 0, .int .u32 0, .int .i64 0] ?_; clear HB; intro gb412 w10 hg BK412 hb GE412 HB; replace HO_3 := Aside0.mk (Kd.R_below (ro HO_3) hb); have NB405_412 := nl BK405 hg; have NB412_405 := ng BK405 hg; replace BK405 := b_ BK405 hb; clear hb hg; have hnb11 := NB412_405.out; have hnc11 := NB405_412.out; obtain ⟨z12_0, z12_1, z12_2, z12_3⟩ := ca4 BK412; obtain ⟨f12_0, f12_1, f12_2, f12_3⟩ := fa4 BK412))
      (try refine ap ?_)
      have H := HU8.out
      clear HU8
      replace H := ieq H
      rcases H with ⟨c13b0, c13b1, H⟩ | ⟨c13, c13b0, c13b1, H⟩
      ·(first | rw [c13b0] | (simp only [i64_w, i32_w]; rw [c13b0]) | (simp only [c13b2, Bool.not_true, Bool.not_false]) | (simp only [c13b1, Bool.not_true, Bool.not_false]) | skip)
       replace H := bn H
       obtain ⟨t413, A14, H⟩ := H
       try dsimp only at H
       have H' := Aside0.mk H
       clear H
       have hnb15 := NB412_405.out
       have hnc15 := NB405_412.out
       obtain ⟨z16_0, z16_1, z16_2, z16_3⟩ := ca4 BK412
       obtain ⟨f16_0, f16_1, f16_2, f16_3⟩ := fa4 BK412
       go_wp2_with (first | ((with_reducible refine gf 49 ?_); refine gc Tryz.func49 (some 29) (impl_BitList.calls _ _ _ _ A14.out) ?_; rintro e w17 ⟨v414, rfl, ho0, hb⟩; refine ⟨_, rfl, ?_⟩; replace HO_3 := Aside0.mk (Kd.R_below (rx HO_3 BK412) hb); have HO415 := Aside0.mk (Kd.R_lower ho0 (below_size bw)); replace BK405 := b_ BK405 hb; replace BK412 := bq BK412 #[.int .i64 t407, .int .i64 t408, .int .u32 t409, .int .i64 t410] hb; replace HB := hs hb; try clear hb; (try clear ho0); obtain ⟨Ao18, co18, eo18⟩ := Kd.R_slice HO415.out; subst eo18))
       go_loopg [3, 31] k1 (fun kq v3 v31 w' => ∃ (x3_2 : List (S55)) (x31_2 : Int), v31 = .int .i64 x31_2 ∧ Aside0 (impl_audit.l1 kq x3_2 x13_1 l0_0 (l0_0.length : Int) x13_1 t413 (t413.length : Int) x31_2 t407 t408 t409 t410 = some r) ∧ Aside0 (kq ≤ k1) ∧ Aside0 (Kd.R k55 55 w' w.heap.size (fun _ => True) v3 x3_2) ∧ Aside0 (Kd.R (Kd.int .i64) 3 w' w.heap.size (fun _ => True) (.slice Ao18 t413.length co18) t413) ∧ Aside0 (w'.heap[gb405]? = some (.cells #[(.slice (some ad406) l0_0.length c0_0)] 34 (0, 0))) ∧ Aside0 (w'.heap[gb412]? = some (.cells #[.int .i64 t407, .int .i64 t408, .int .u32 t409, .int .i64 t410] 75 (0, 0))) ∧ Aside0 (Below w.heap.size w w'))
       case atStart => exact ⟨(x3_1), (0), ev, H', ⟨Nat.le_refl _⟩, ⟨ro HO_3⟩, ⟨ro HO415⟩, ⟨bk BK405⟩, ⟨bk BK412⟩, ⟨bw⟩⟩
       case round =>
        clear H'
        try clear c4
        try clear c4b0
        try clear c5
        try clear c5b0
        try clear c6
        try clear c6b0
        try clear c13
        try clear c13b0
        try clear c13b1
        try clear c13b2
        (try clear z12_0 z12_1 z12_2 z12_3)
        (try clear z16_0 z16_1 z16_2 z16_3)
        (try clear z3_0)
        (try clear f12_0 f12_1 f12_2 f12_3)
        (try clear f16_0 f16_1 f16_2 f16_3)
        (try clear f3_0)
        try clear hx406_0
        try clear p406
        try clear q406
        obtain ⟨x3_2, x31_2, rfl, HA, HK2, HO_3, HO_29, BK405, BK412, HB⟩ := hrel
        cases gk with
        | zero => exact absurd HA.out (by simp [impl_audit.l1])
        | succ k2 =>
         have H := HA.out
         clear HA
         simp only [impl_audit.l1] at H
         replace H := ilt H
         rcases H with ⟨c19b0, H⟩ | ⟨c19b0, H⟩
         ·by_cases c20 : 0 ≤ x31_2
          ·rw [if_pos c20] at H
           have c20b0 : decide (0 ≤ x31_2) = true := decide_eq_true c20
           clear c20
           by_cases c21 : x31_2 < (t413.length : Int)
           ·rw [if_pos c21] at H
            have c21b0 : decide (x31_2 < (t413.length : Int)) = true := decide_eq_true c21
            clear c21
            by_cases c22 : 0 ≤ t408
            ·rw [if_pos c22] at H
             have c22b0 := eq_true c22
             have c22b1 : decide (0 ≤ t408) = true := decide_eq_true c22
             clear c22
             obtain ⟨ji23, hji23⟩ : ∃ j_ : Int, (shl .i64 (rd t413 x31_2) t408) = j_ := ⟨_, rfl⟩
             first | rw [hji23] at H | simp only [hji23] at H
             have hji23_ : (IntKind.i64.wrap ((rd t413 x31_2) * 2 ^ min t408.toNat 64)) = ji23 := hji23
             have hji23z : t408 ≤ 64 → (IntKind.i64.wrap ((rd t413 x31_2) * 2 ^ t408.toNat)) = ji23 := shl_small hji23
             have hji23y : (wrap64 ((rd t413 x31_2) * 2 ^ min t408.toNat 64)) = ji23 := (i64_w _).symm.trans hji23_
             have hji23x : t408 ≤ 64 → (wrap64 ((rd t413 x31_2) * 2 ^ t408.toNat)) = ji23 := fun h_ => (i64_w _).symm.trans (hji23z h_)
             replace H := bn H
             obtain ⟨t417, A24, H⟩ := H
             try dsimp only at H
             by_cases c25 : x3_2.length < 8796093022208
             ·rw [if_pos c25] at H
              have LMc25 := Aside0.mk c25
              clear c25
              obtain ⟨y418, hy418⟩ : ∃ y_ : List (S55), y_ = (x3_2 ++ [(⟨wrap64 ((wrap64 (x13_1 * 16)) + (ji23)), t417⟩ : S55)]) := ⟨_, rfl⟩
              rw [← hy418] at H
              try with_reducible replace H := bs H
              have Ny418 := Aside0.mk hy418
              clear hy418
              have H' := Aside0.mk H
              clear H
              have p416 : 0 ≤ (x31_2 : Int) := of_decide_eq_true as_
              have q416 : x31_2 < (t413.length : Int) := of_decide_eq_true as_
              obtain ⟨ad416, e416, hx416_0⟩ := Kd.at_int (Kd.R_reads' HO_29.out).2.2 x31_2 p416 q416
              cases e416
              replace p416 := eq_true p416
              replace q416 := eq_true q416
              try go_wp2
              replace HO_3 := Aside0.mk (Kd.R_drew HO_3.out)
              replace HO_29 := Aside0.mk (Kd.R_drew HO_29.out)
              replace BK405 := bd BK405
              replace BK412 := bd BK412
              replace HB := hd HB
              refine st 15 (fun w' => CA w' gb412 0 [.int .i64 t407, .int .i64 t408, .int .u32 t409, .int .i64 t410]) [] (cx BK412) impl_audit.tab11 impl_audit.bits11 ?_; intro hHeld HT_ HW_
              generalize wr.drew = w26 at HO_3 HO_29 BK405 BK412 HB hHeld ⊢
              refine pu 0 35 (bl 15 1) ?_
              refine pu 1 36 (bl 15 3) ?_
              refine pu 2 37 (bl 15 7) ?_
              refine pu 3 38 (bl 15 15) ?_
              refine pu 4 39 (bl 15 31) ?_
              refine pu 8 43 (bl 15 287) ?_
              refine tk 5 40 (bl 15 319) ?_
              refine pu 6 41 (bl 15 383) ?_
              refine pu 7 42 (bl 15 511) ?_
              refine tk 9 44 (bl 15 1023) ?_
              refine on_ 10 (some 45) (bl 15 2047) (fun K hK => ?_)
              refine gq Tryz.func50 (impl_ClassSize.calls _ _ _ A24.out) ?_
              rintro e w' ⟨rfl, ⟨nd, rfl⟩⟩
              refine ⟨_, rfl, ?_⟩
              refine hK.out _ _ (cx BK412) (fun hHeld => ?_)
              clear hK K
              refine nm ?_
              refine pu 11 46 (bl 15 4095) ?_
              refine on_ 12 (some 47) (bl 15 8191) (fun K hK => ?_)
              refine value_ (w1 := ?_) (v := ?_) (by rfl) rfl ?_ ?_
              rotate_left 2
              ·go_simp
               constructor
               ·rfl
               ·rfl
              refine hK.out _ _ ⟨(blk_cell (blk_alloc BK412.out _) 0).trans rfl, (blk_cell (blk_alloc BK412.out _) 1).trans rfl, (blk_cell (blk_alloc BK412.out _) 2).trans rfl, (blk_cell (blk_alloc BK412.out _) 3).trans rfl⟩ (fun hHeld => ?_)
              clear hK K
              refine nm ?_
              refine on_ 13 (some 48) (bl 15 16383) (fun K hK => ?_)
              refine Kd.R_append_step k55 (w0 := w) w.heap.size (by rfl) (.tmp 35) (.tmp 47) 50 55 (.agg #[(.int .i64 0), (.int .i64 0)]) 16 rfl Tryz.underlying50 info55 rfl (by decide) (by omega) u3 x3_2 (⟨wrap64 ((wrap64 (x13_1 * 16)) + (ji23)), t417⟩ : S55) [.int .i64 (wrap64 ((wrap64 (x13_1 * 16)) + (ji23))), .int .i64 t417] (fun _ => True) (fun _ => False) rfl rfl ?aP (fun _ hk => hk.elim) ?aF ?aO ?aB ?aS ?aL ?_
              (case aP => exact k55_mkM _ _ _ (⟨wrap64 ((wrap64 (x13_1 * 16)) + (ji23)), t417⟩ : S55))
              (case aB => exact bw)
              (case aF => exact (fun _ _ => trivial))
              (case aO => exact (ro HO_3))
              (case aS => exact (below_size bw))
              (case aL => have := LMc25.out; omega)
              intro v419 w27 ho hb hg hat
              rw [← Ny418.out] at ho
              replace HO_29 := Aside0.mk (Kd.R_over' (ro HO_29) (Kd.R_typed (ro HO_3)) (by decide) hg)
              replace BK405 := bg BK405 hg (Kd.R_ne HO_3.out BK405.out (by decide))
              replace BK412 := bg BK412 hg (Kd.R_ne HO_3.out BK412.out (by decide))
              have HO420 := Aside0.mk (ho)
              replace HB := Aside0.mk (hb)
              clear HO_3
              clear ho hb hg hat
              refine hK.out _ _ (cx BK412) (fun hHeld => ?_)
              clear hK K
              refine nm ?_
              refine pu 14 3 (bl 15 32767) ?_
              refine dn ?_ _
              try go_wp2
              go_roundg k2
              case measure => have := HK1.out; have := HK2.out; omega
              case rel => exact ⟨(y418), (wrap64 (x31_2 + 1)), ev, H', ⟨by have := HK1.out; have := HK2.out; omega⟩, ⟨ro HO420⟩, ⟨ro HO_29⟩, ⟨bk BK405⟩, ⟨bk BK412⟩, ⟨bw⟩⟩
             ·rw [if_neg c25] at H
              exact absurd H (by simp)
            ·rw [if_neg c22] at H
             exact absurd H (by simp)
           ·rw [if_neg c21] at H
            exact absurd H (by simp)
          ·rw [if_neg c20] at H
           exact absurd H (by simp)
         ·have H' := Aside0.mk H
          clear H
          go_wp2
          go_roundg k2
          case measure => have := HK1.out; have := HK2.out; omega
          case rel => exact ⟨(x3_2), (wrap64 (x13_1 + 1)), ev, H', ⟨by have := HK1.out; have := HK2.out; omega⟩, ⟨ro HO_3⟩, ⟨bk BK405⟩, ⟨bw⟩⟩
      ·(first | rw [c13b0] | (simp only [i64_w, i32_w]; rw [c13b0]) | (simp only [c13b2, Bool.not_true, Bool.not_false]) | (simp only [c13b1, Bool.not_true, Bool.not_false]) | skip)
       replace H := ieq H
       rcases H with ⟨c28b0, c28b1, H⟩ | ⟨c28, c28b0, c28b1, H⟩
       ·by_cases c29 : x3_1.length < 8796093022208
        ·rw [if_pos c29] at H
         have LMc29 := Aside0.mk c29
         clear c29
         obtain ⟨y421, hy421⟩ : ∃ y_ : List (S55), y_ = (x3_1 ++ [(⟨wrap64 (x13_1 * 16), wrap64 (t410 * 16)⟩ : S55)]) := ⟨_, rfl⟩
         rw [← hy421] at H
         try with_reducible replace H := bs H
         have Ny421 := Aside0.mk hy421
         clear hy421
         have H' := Aside0.mk H
         clear H
         have hnb30 := NB412_405.out
         have hnc30 := NB405_412.out
         obtain ⟨z31_0, z31_1, z31_2, z31_3⟩ := ca4 BK412
         obtain ⟨f31_0, f31_1, f31_2, f31_3⟩ := fa4 BK412
         go_wp2_with (first | ((with_reducible refine gate_builtin (b := .append) (xs := #[.tmp 52, .tmp 59]) rfl ?_); at_builtin; refine Kd.R_append k55 (w0 := w) w.heap.size rfl (.tmp 52) (.tmp 59) 50 55 (.agg #[(.int .i64 0), (.int .i64 0)]) 16 rfl Tryz.underlying50 info55 rfl (by decide) (by omega) u3 x3_1 (⟨wrap64 (x13_1 * 16), wrap64 (t410 * 16)⟩ : S55) [.int .i64 (wrap64 (x13_1 * 16)), .int .i64 (wrap64 (t410 * 16))] (fun _ => True) (fun _ => False) rfl (by first | (go_simp; done) | (go_simp; rfl)) ?aP (fun _ hk => hk.elim) ?aF ?aO ?aB ?aS ?aL ?_; (case aP => exact k55_mkM _ _ _ (⟨wrap64 (x13_1 * 16), wrap64 (t410 * 16)⟩ : S55)); (case aB => exact bw); (case aF => exact (fun _ _ => trivial)); (case aO => exact (by (with_reducible repeat (first | apply Kd.R_alloc | apply Kd.R_drewN | apply Kd.R_drew)); exact Kd.R_mono (Kd.R_far (p := ⟨gb412, 3, none⟩) (Kd.R_far (p := ⟨gb412, 2, none⟩) (Kd.R_far (p := ⟨gb412, 1, none⟩) (Kd.R_far (p := ⟨gb412, 0, none⟩) (Kd.R_types HO_3.out BK412.out (by decide)) (fun _ hk => hk.2) (.int .i64 t407)) (fun _ hk => hk.2) (.int .i64 t408)) (fun _ hk => hk.2) (.int .u32 t409)) (fun _ hk => hk.2) (.int .i64 t410)) (fun _ hk => trivial))); (case aS => exact (below_size bw)); (case aL => have := LMc29.out; omega); intro v422 w32 ho hb hg hat; rw [← Ny421.out] at ho; replace BK405 := bg BK405 hg (Kd.R_ne HO_3.out BK405.out (by decide)); replace BK412 := Aside0.mk (blk_grown (g := gb412) (o := .cells #[.int .i64 t407, .int .i64 t408, .int .u32 t409, .int .i64 t410] 75 (0, 0)) (bp BK412) hg (Kd.R_ne HO_3.out BK412.out (by decide))); have HO423 := Aside0.mk (ho); replace HB := Aside0.mk (hb); clear HO_3; clear ho hb hg hat))
         go_roundg k1
         case measure => have := HK1.out; omega
         case rel => exact ⟨(y421), (wrap64 (x13_1 + 1)), ev, H', ⟨oa HK1⟩, ⟨ro HO423⟩, ⟨bk BK405⟩, ⟨bw⟩⟩
        ·rw [if_neg c29] at H
         exact absurd H (by simp)
       ·have H' := Aside0.mk H
        clear H
        go_wp2
        go_roundg k1
        case measure => have := HK1.out; omega
        case rel => exact ⟨(x3_1), (wrap64 (x13_1 + 1)), ev, H', ⟨oa HK1⟩, ⟨by (with_reducible repeat (first | apply Kd.R_alloc | apply Kd.R_drewN | apply Kd.R_drew)); exact Kd.R_mono (Kd.R_far (p := ⟨gb412, 3, none⟩) (Kd.R_far (p := ⟨gb412, 2, none⟩) (Kd.R_far (p := ⟨gb412, 1, none⟩) (Kd.R_far (p := ⟨gb412, 0, none⟩) (Kd.R_types HO_3.out BK412.out (by decide)) (fun _ hk => hk.2) (.int .i64 t407)) (fun _ hk => hk.2) (.int .i64 t408)) (fun _ hk => hk.2) (.int .u32 t409)) (fun _ hk => hk.2) (.int .i64 t410)) (fun _ hk => trivial)⟩, ⟨bk BK405⟩, ⟨bw⟩⟩
     ·rw [if_neg c6] at H
      exact absurd H (by simp)
    ·rw [if_neg c5] at H
     exact absurd H (by simp)
   ·obtain rfl := Option.some.inj H
    go_wp2
    go_ret
    exact ⟨_, rt, ro HO_3, bw⟩

/-! ### laws_eqIntS: function 24 -/
def laws_eqIntS.l0 : Nat → List Int → List Int → Int → Option (Bool)
 | 0, _, _, _ => none
 | k + 1, x0, x1, x5 => if x5 < (x0.length : Int) then (if 0 ≤ x5 then (if x5 < (x1.length : Int) then (if (rd x0 x5) = (rd x1 x5) then (laws_eqIntS.l0 k x0 x1 (wrap64 (x5 + 1))) else (some false)) else (none)) else (none)) else (some true)
def laws_eqIntS.f (k : Nat) (l0 : List Int) (l1 : List Int) : Option (Bool) := if (l0.length : Int) = (l1.length : Int) then (laws_eqIntS.l0 k l0 l1 0) else (some false)
theorem laws_eqIntS.mono_l : ∀ k, (∀ y0 y1 y2, LeO (laws_eqIntS.l0 k y0 y1 y2) (laws_eqIntS.l0 (k + 1) y0 y1 y2))
 | 0 => fun _ _ _ r h => by simp [laws_eqIntS.l0] at h
 | k + 1 => by
  have ih0 := laws_eqIntS.mono_l k
  ·intro y0 y1 y2
   unfold laws_eqIntS.l0
   repeat' first
    | (with_reducible first | exact ih0 .. | exact LeO.refl _ | exact LeO.none _ | refine LeO.ite ?_ ?_ | refine LeO.bind ?_ (fun _ => ?_))
    | exact LeO.none _ | refine LeO.ite ?_ ?_ | refine LeO.bind ?_ (fun _ => ?_)
theorem laws_eqIntS.mono : ∀ a0 a1 k, LeO (laws_eqIntS.f k a0 a1) (laws_eqIntS.f (k + 1) a0 a1) := by
 intro a0 a1 k
 have ih0 := laws_eqIntS.mono_l k
 unfold laws_eqIntS.f
 repeat' first
  | (with_reducible first | exact ih0 .. | exact LeO.refl _ | exact LeO.none _ | refine LeO.ite ?_ ?_ | refine LeO.bind ?_ (fun _ => ?_))
  | exact LeO.none _ | refine LeO.ite ?_ ?_ | refine LeO.bind ?_ (fun _ => ?_)
set_option maxHeartbeats 2000000 in
set_option maxRecDepth 100000 in
theorem laws_eqIntS.calls (k : Nat) (A0 : Option Addr) (c0 : Nat) (l0 : List Int) (A1 : Option Addr) (c1 : Nat) (l1 : List Int) (r : Bool) (w : World) (hr0 : Kd.C (Kd.int .i64) w A0 l0.length l0) (hc0 : l0.length ≤ c0) (hr1 : Kd.C (Kd.int .i64) w A1 l1.length l1) (hc1 : l1.length ≤ c1) (h : laws_eqIntS.f k l0 l1 = some r) :
  Calls Tryz.prog 24 #[.slice A0 l0.length c0, .slice A1 l1.length c1] w fun e w' => e = .returned (.bool r) ∧ Drawn0 w w' := by
 have HR0 := Aside0.mk hr0
 have HC0 := Aside0.mk hc0
 clear hr0 hc0
 have HR1 := Aside0.mk hr1
 have HC1 := Aside0.mk hc1
 clear hr1 hc1
 unfold laws_eqIntS.f at h
 have H := h
 clear h
 by_cases c3 : (l0.length : Int) = (l1.length : Int)
 ·rw [if_pos c3] at H
  have c3b0 : ((l0.length : Int) == (l1.length : Int)) = true := beq_iff_eq.mpr c3
  have c3b1 : ((l0.length : Int) != (l1.length : Int)) = false := bne_eq_false_iff_eq.mpr c3
  have c3b2 : (l0.length == l1.length) = true := by first | simpa using c3 | (simp at c3 ⊢; omega)
  clear c3
  have H' := Aside0.mk H
  clear H
  go_enter Tryz.func24, Tryz.ntmps24
  go_wp2
  repeat (go_quiet (fail); try go_wp2)
  go_loopg [5] k (fun kq v5 w' => ∃ (x5_1 : Int), v5 = .int .i64 x5_1 ∧ Aside0 (laws_eqIntS.l0 kq l0 l1 x5_1 = some r) ∧ Aside0 (kq ≤ k) ∧ Drawn0 w w')
  case atStart => exact ⟨(0), ev, H', ⟨Nat.le_refl _⟩, dr⟩
  case round =>
   clear H'
   try clear c1
   try clear c3
   try clear c3b0
   try clear c3b1
   try clear c3b2
   obtain ⟨x5_1, rfl, HA, HK1, ⟨m1, rfl⟩⟩ := hrel
   cases gk with
   | zero => exact absurd HA.out (by simp [laws_eqIntS.l0])
   | succ k1 =>
    have H := HA.out
    clear HA
    simp only [laws_eqIntS.l0] at H
    replace H := ilt H
    rcases H with ⟨c4b0, H⟩ | ⟨c4b0, H⟩
    ·by_cases c5 : 0 ≤ x5_1
     ·rw [if_pos c5] at H
      have c5b0 : decide (0 ≤ x5_1) = true := decide_eq_true c5
      clear c5
      by_cases c6 : x5_1 < (l1.length : Int)
      ·rw [if_pos c6] at H
       have c6b0 : decide (x5_1 < (l1.length : Int)) = true := decide_eq_true c6
       clear c6
       replace H := ieq H
       rcases H with ⟨c7b0, c7b1, H⟩ | ⟨c7, c7b0, c7b1, H⟩
       ·have H' := Aside0.mk H
        clear H
        have p424 : 0 ≤ (x5_1 : Int) := of_decide_eq_true as_
        have q424 : x5_1 < (l0.length : Int) := of_decide_eq_true as_
        obtain ⟨ad424, e424, hx424_0⟩ := Kd.at_int HR0.out x5_1 p424 q424
        cases e424
        replace p424 := eq_true p424
        replace q424 := eq_true q424
        have p425 : 0 ≤ (x5_1 : Int) := of_decide_eq_true as_
        have q425 : x5_1 < (l1.length : Int) := of_decide_eq_true as_
        obtain ⟨ad425, e425, hx425_0⟩ := Kd.at_int HR1.out x5_1 p425 q425
        cases e425
        replace p425 := eq_true p425
        replace q425 := eq_true q425
        go_wp2
        repeat (go_quiet (fail); try go_wp2)
        go_roundg k1
        case measure => have := HK1.out; omega
        case rel => exact ⟨(wrap64 (x5_1 + 1)), ev, H', ⟨oa HK1⟩, dr⟩
       ·obtain rfl := Option.some.inj H
        have p424 : 0 ≤ (x5_1 : Int) := of_decide_eq_true as_
        have q424 : x5_1 < (l0.length : Int) := of_decide_eq_true as_
        obtain ⟨ad424, e424, hx424_0⟩ := Kd.at_int HR0.out x5_1 p424 q424
        cases e424
        replace p424 := eq_true p424
        replace q424 := eq_true q424
        have p425 : 0 ≤ (x5_1 : Int) := of_decide_eq_true as_
        have q425 : x5_1 < (l1.length : Int) := of_decide_eq_true as_
        obtain ⟨ad425, e425, hx425_0⟩ := Kd.at_int HR1.out x5_1 p425 q425
        cases e425
        replace p425 := eq_true p425
        replace q425 := eq_true q425
        go_wp2
        repeat (go_quiet (fail); try go_wp2)
        go_ret
        exact ⟨ev, dr⟩
      ·rw [if_neg c6] at H
       exact absurd H (by simp)
     ·rw [if_neg c5] at H
      exact absurd H (by simp)
    ·obtain rfl := Option.some.inj H
     go_wp2
     repeat (go_quiet (fail); try go_wp2)
     go_ret
     exact ⟨ev, dr⟩
 ·rw [if_neg c3] at H
  have c3b0 : ((l0.length : Int) == (l1.length : Int)) = false := beq_eq_false_iff_ne.mpr c3
  have c3b1 : ((l0.length : Int) != (l1.length : Int)) = true := bne_iff_ne.mpr c3
  have c3b2 : (l0.length == l1.length) = false := by first | simpa using c3 | (simp at c3 ⊢; omega)
  obtain rfl := Option.some.inj H
  go_enter Tryz.func24, Tryz.ntmps24
  go_wp2
  repeat (go_quiet (fail); try go_wp2)
  go_ret
  exact ⟨ev, dr⟩

end Go.Proofs.YtobboonnfocalaaGreatDoor.PG1
namespace Go.Proofs.YtobboonnfocalaaGreatDoor.PG1
open Go.RowKit Go.Proofs.YtobboonnfocalaaGreatDoorW.PrintWords Go.Proofs.YtobboonnfocalaaGreatDoorW.PrintLast Go.Proofs.YtobboonnfocalaaGreatDoorW.PrintMore Go.Proofs.YtobboonnfocalaaGreatDoor.T
attribute [local go_sem] max2_int min2_int max_two min_two max_three min_three max_four min_four   -- for this text's walks alone
set_option linter.unusedVariables false
set_option linter.unusedSimpArgs false

/-! ### laws_eqReq: function 8 -/
def laws_eqReq.f (k : Nat) (a0_0 : Int) (l0_1 : List Int) (a1_0 : Int) (l1_1 : List Int) : Option (Bool) := if a0_0 = a1_0 then ((laws_eqIntS.f k l0_1 l1_1).bind fun t428 => (if t428 = true then (some true) else (some false))) else (some false)
theorem laws_eqReq.mono : ∀ a0 a1 a2 a3 k, LeO (laws_eqReq.f k a0 a1 a2 a3) (laws_eqReq.f (k + 1) a0 a1 a2 a3) := by
 intro a0 a1 a2 a3 k
 unfold laws_eqReq.f
 repeat' first
  | (with_reducible first | exact laws_eqIntS.mono .. | exact LeO.refl _ | exact LeO.none _ | refine LeO.ite ?_ ?_ | refine LeO.bind ?_ (fun _ => ?_))
  | exact LeO.none _ | refine LeO.ite ?_ ?_ | refine LeO.bind ?_ (fun _ => ?_)
set_option maxHeartbeats 2000000 in
set_option maxRecDepth 100000 in
theorem laws_eqReq.calls (k : Nat) (a0_0 : Int) (A0_1 : Option Addr) (c0_1 : Nat) (l0_1 : List Int) (a1_0 : Int) (A1_1 : Option Addr) (c1_1 : Nat) (l1_1 : List Int) (r : Bool) (w : World) (hr0_1 : Kd.C (Kd.int .i64) w A0_1 l0_1.length l0_1) (hc0_1 : l0_1.length ≤ c0_1) (hr1_1 : Kd.C (Kd.int .i64) w A1_1 l1_1.length l1_1) (hc1_1 : l1_1.length ≤ c1_1) (h : laws_eqReq.f k a0_0 l0_1 a1_0 l1_1 = some r) :
  Calls Tryz.prog 8 #[.agg #[.int .i64 a0_0, .slice A0_1 l0_1.length c0_1], .agg #[.int .i64 a1_0, .slice A1_1 l1_1.length c1_1]] w fun e w' => e = .returned (.bool r) ∧ Below w.heap.size w w' := by
 have hu31 := Tryz.underlying31
 have HR0_1 := Aside0.mk hr0_1
 have HC0_1 := Aside0.mk hc0_1
 clear hr0_1 hc0_1
 have HR1_1 := Aside0.mk hr1_1
 have HC1_1 := Aside0.mk hc1_1
 clear hr1_1 hc1_1
 have HB := Aside0.mk (Below.refl w.heap.size w)
 unfold laws_eqReq.f at h
 have H := h
 clear h
 have HU3 := Aside0.mk H
 clear H
 go_enter Tryz.func8, Tryz.ntmps8
 go_upto_if 9 with (first | ((with_reducible refine gd 2 ?_); refine bx 2 31 #[.int .i64 a0_0, .slice A0_1 l0_1.length c0_1] ?_; clear HB; intro gb426 w4 hg BK426 hb GE426 HB; clear hb hg) | ((with_reducible refine gd 3 ?_); refine bx 3 31 #[.int .i64 a1_0, .slice A1_1 l1_1.length c1_1] ?_; clear HB; intro gb427 w5 hg BK427 hb GE427 HB; have NB426_427 := nl BK426 hg; have NB427_426 := ng BK426 hg; replace BK426 := b_ BK426 hb; clear hb hg; have hnb6 := NB426_427.out; have hnc6 := NB427_426.out; obtain ⟨z7_0, z7_1⟩ := ca2 BK426; obtain ⟨f7_0, f7_1⟩ := fa2 BK426; obtain ⟨z8_0, z8_1⟩ := ca2 BK427; obtain ⟨f8_0, f8_1⟩ := fa2 BK427))
 (try refine ap ?_)
 have H := HU3.out
 clear HU3
 replace H := ieq H
 rcases H with ⟨c9b0, c9b1, H⟩ | ⟨c9, c9b0, c9b1, H⟩
 ·(first | rw [c9b0] | (simp only [i64_w, i32_w]; rw [c9b0]) | (simp only [c9b2, Bool.not_true, Bool.not_false]) | (simp only [c9b1, Bool.not_true, Bool.not_false]) | skip)
  replace H := bn H
  obtain ⟨t428, A10, H⟩ := H
  try dsimp only at H
  have HU11 := Aside0.mk H
  clear H
  have hnb12 := NB426_427.out
  have hnc12 := NB427_426.out
  obtain ⟨z13_0, z13_1⟩ := ca2 BK426
  obtain ⟨f13_0, f13_1⟩ := fa2 BK426
  obtain ⟨z14_0, z14_1⟩ := ca2 BK427
  obtain ⟨f14_0, f14_1⟩ := fa2 BK427
  go_upto_if 15 with (first | ((with_reducible refine gf 24 ?_); refine gc Tryz.func24 (some 14) (laws_eqIntS.calls _ A0_1 c0_1 _ A1_1 c1_1 _ _ _ (cb HR0_1) HC0_1.out (cb HR1_1) HC1_1.out A10.out) ?_; rintro e w' ⟨rfl, ⟨nd, rfl⟩⟩; refine ⟨_, rfl, ?_⟩))
  (try refine ap ?_)
  have H := HU11.out
  clear HU11
  replace H := ib H
  rcases H with ⟨rfl, H⟩ | ⟨rfl, H⟩
  ·(try simp only [Bool.not_true, Bool.not_false])
   obtain rfl := Option.some.inj H
   go_wp2
   go_ret
   exact ⟨rt, bw⟩
  ·(try simp only [Bool.not_true, Bool.not_false])
   obtain rfl := Option.some.inj H
   go_wp2
   go_ret
   exact ⟨rt, bw⟩
 ·(first | rw [c9b0] | (simp only [i64_w, i32_w]; rw [c9b0]) | (simp only [c9b2, Bool.not_true, Bool.not_false]) | (simp only [c9b1, Bool.not_true, Bool.not_false]) | skip)
  obtain rfl := Option.some.inj H
  go_wp2
  go_ret
  exact ⟨rt, bw⟩

/-! ### laws_eqUint32S: function 51 -/
def laws_eqUint32S.l0 : Nat → List Int → List Int → Int → Option (Bool)
 | 0, _, _, _ => none
 | k + 1, x0, x1, x5 => if x5 < (x0.length : Int) then (if 0 ≤ x5 then (if x5 < (x1.length : Int) then (if (rd x0 x5) = (rd x1 x5) then (laws_eqUint32S.l0 k x0 x1 (wrap64 (x5 + 1))) else (some false)) else (none)) else (none)) else (some true)
def laws_eqUint32S.f (k : Nat) (l0 : List Int) (l1 : List Int) : Option (Bool) := if (l0.length : Int) = (l1.length : Int) then (laws_eqUint32S.l0 k l0 l1 0) else (some false)
theorem laws_eqUint32S.mono_l : ∀ k, (∀ y0 y1 y2, LeO (laws_eqUint32S.l0 k y0 y1 y2) (laws_eqUint32S.l0 (k + 1) y0 y1 y2))
 | 0 => fun _ _ _ r h => by simp [laws_eqUint32S.l0] at h
 | k + 1 => by
  have ih0 := laws_eqUint32S.mono_l k
  ·intro y0 y1 y2
   unfold laws_eqUint32S.l0
   repeat' first
    | (with_reducible first | exact ih0 .. | exact LeO.refl _ | exact LeO.none _ | refine LeO.ite ?_ ?_ | refine LeO.bind ?_ (fun _ => ?_))
    | exact LeO.none _ | refine LeO.ite ?_ ?_ | refine LeO.bind ?_ (fun _ => ?_)
theorem laws_eqUint32S.mono : ∀ a0 a1 k, LeO (laws_eqUint32S.f k a0 a1) (laws_eqUint32S.f (k + 1) a0 a1) := by
 intro a0 a1 k
 have ih0 := laws_eqUint32S.mono_l k
 unfold laws_eqUint32S.f
 repeat' first
  | (with_reducible first | exact ih0 .. | exact LeO.refl _ | exact LeO.none _ | refine LeO.ite ?_ ?_ | refine LeO.bind ?_ (fun _ => ?_))
  | exact LeO.none _ | refine LeO.ite ?_ ?_ | refine LeO.bind ?_ (fun _ => ?_)
set_option maxHeartbeats 2000000 in
set_option maxRecDepth 100000 in
theorem laws_eqUint32S.calls (k : Nat) (A0 : Option Addr) (c0 : Nat) (l0 : List Int) (A1 : Option Addr) (c1 : Nat) (l1 : List Int) (r : Bool) (w : World) (hr0 : Kd.C (Kd.int .u32) w A0 l0.length l0) (hc0 : l0.length ≤ c0) (hr1 : Kd.C (Kd.int .u32) w A1 l1.length l1) (hc1 : l1.length ≤ c1) (h : laws_eqUint32S.f k l0 l1 = some r) :
  Calls Tryz.prog 51 #[.slice A0 l0.length c0, .slice A1 l1.length c1] w fun e w' => e = .returned (.bool r) ∧ Drawn0 w w' := by
 have HR0 := Aside0.mk hr0
 have HC0 := Aside0.mk hc0
 clear hr0 hc0
 have HR1 := Aside0.mk hr1
 have HC1 := Aside0.mk hc1
 clear hr1 hc1
 unfold laws_eqUint32S.f at h
 have H := h
 clear h
 by_cases c3 : (l0.length : Int) = (l1.length : Int)
 ·rw [if_pos c3] at H
  have c3b0 : ((l0.length : Int) == (l1.length : Int)) = true := beq_iff_eq.mpr c3
  have c3b1 : ((l0.length : Int) != (l1.length : Int)) = false := bne_eq_false_iff_eq.mpr c3
  have c3b2 : (l0.length == l1.length) = true := by first | simpa using c3 | (simp at c3 ⊢; omega)
  clear c3
  have H' := Aside0.mk H
  clear H
  go_enter Tryz.func51, Tryz.ntmps51
  go_wp2
  repeat (go_quiet (fail); try go_wp2)
  go_loopg [5] k (fun kq v5 w' => ∃ (x5_1 : Int), v5 = .int .i64 x5_1 ∧ Aside0 (laws_eqUint32S.l0 kq l0 l1 x5_1 = some r) ∧ Aside0 (kq ≤ k) ∧ Drawn0 w w')
  case atStart => exact ⟨(0), ev, H', ⟨Nat.le_refl _⟩, dr⟩
  case round =>
   clear H'
   try clear c1
   try clear c3
   try clear c3b0
   try clear c3b1
   try clear c3b2
   obtain ⟨x5_1, rfl, HA, HK1, ⟨m1, rfl⟩⟩ := hrel
   cases gk with
   | zero => exact absurd HA.out (by simp [laws_eqUint32S.l0])
   | succ k1 =>
    have H := HA.out
    clear HA
    simp only [laws_eqUint32S.l0] at H
    replace H := ilt H
    rcases H with ⟨c4b0, H⟩ | ⟨c4b0, H⟩
    ·by_cases c5 : 0 ≤ x5_1
     ·rw [if_pos c5] at H
      have c5b0 : decide (0 ≤ x5_1) = true := decide_eq_true c5
      clear c5
      by_cases c6 : x5_1 < (l1.length : Int)
      ·rw [if_pos c6] at H
       have c6b0 : decide (x5_1 < (l1.length : Int)) = true := decide_eq_true c6
       clear c6
       replace H := ieq H
       rcases H with ⟨c7b0, c7b1, H⟩ | ⟨c7, c7b0, c7b1, H⟩
       ·have H' := Aside0.mk H
        clear H
        have p429 : 0 ≤ (x5_1 : Int) := of_decide_eq_true as_
        have q429 : x5_1 < (l0.length : Int) := of_decide_eq_true as_
        obtain ⟨ad429, e429, hx429_0⟩ := Kd.at_int HR0.out x5_1 p429 q429
        cases e429
        replace p429 := eq_true p429
        replace q429 := eq_true q429
        have p430 : 0 ≤ (x5_1 : Int) := of_decide_eq_true as_
        have q430 : x5_1 < (l1.length : Int) := of_decide_eq_true as_
        obtain ⟨ad430, e430, hx430_0⟩ := Kd.at_int HR1.out x5_1 p430 q430
        cases e430
        replace p430 := eq_true p430
        replace q430 := eq_true q430
        go_wp2
        repeat (go_quiet (fail); try go_wp2)
        go_roundg k1
        case measure => have := HK1.out; omega
        case rel => exact ⟨(wrap64 (x5_1 + 1)), ev, H', ⟨oa HK1⟩, dr⟩
       ·obtain rfl := Option.some.inj H
        have p429 : 0 ≤ (x5_1 : Int) := of_decide_eq_true as_
        have q429 : x5_1 < (l0.length : Int) := of_decide_eq_true as_
        obtain ⟨ad429, e429, hx429_0⟩ := Kd.at_int HR0.out x5_1 p429 q429
        cases e429
        replace p429 := eq_true p429
        replace q429 := eq_true q429
        have p430 : 0 ≤ (x5_1 : Int) := of_decide_eq_true as_
        have q430 : x5_1 < (l1.length : Int) := of_decide_eq_true as_
        obtain ⟨ad430, e430, hx430_0⟩ := Kd.at_int HR1.out x5_1 p430 q430
        cases e430
        replace p430 := eq_true p430
        replace q430 := eq_true q430
        go_wp2
        repeat (go_quiet (fail); try go_wp2)
        go_ret
        exact ⟨ev, dr⟩
      ·rw [if_neg c6] at H
       exact absurd H (by simp)
     ·rw [if_neg c5] at H
      exact absurd H (by simp)
    ·obtain rfl := Option.some.inj H
     go_wp2
     repeat (go_quiet (fail); try go_wp2)
     go_ret
     exact ⟨ev, dr⟩
 ·rw [if_neg c3] at H
  have c3b0 : ((l0.length : Int) == (l1.length : Int)) = false := beq_eq_false_iff_ne.mpr c3
  have c3b1 : ((l0.length : Int) != (l1.length : Int)) = true := bne_iff_ne.mpr c3
  have c3b2 : (l0.length == l1.length) = false := by first | simpa using c3 | (simp at c3 ⊢; omega)
  obtain rfl := Option.some.inj H
  go_enter Tryz.func51, Tryz.ntmps51
  go_wp2
  repeat (go_quiet (fail); try go_wp2)
  go_ret
  exact ⟨ev, dr⟩

/-! ### laws_eqMem: function 25 -/
def laws_eqMem.f (k : Nat) (l0_0 : List Int) (l1_0 : List Int) : Option (Bool) := (laws_eqUint32S.f k l0_0 l1_0).bind fun t433 => (if t433 = true then (some true) else (some false))
theorem laws_eqMem.mono : ∀ a0 a1 k, LeO (laws_eqMem.f k a0 a1) (laws_eqMem.f (k + 1) a0 a1) := by
 intro a0 a1 k
 unfold laws_eqMem.f
 repeat' first
  | (with_reducible first | exact laws_eqUint32S.mono .. | exact LeO.refl _ | exact LeO.none _ | refine LeO.ite ?_ ?_ | refine LeO.bind ?_ (fun _ => ?_))
  | exact LeO.none _ | refine LeO.ite ?_ ?_ | refine LeO.bind ?_ (fun _ => ?_)
set_option maxHeartbeats 2000000 in
set_option maxRecDepth 100000 in
theorem laws_eqMem.calls (k : Nat) (A0_0 : Option Addr) (c0_0 : Nat) (l0_0 : List Int) (A1_0 : Option Addr) (c1_0 : Nat) (l1_0 : List Int) (r : Bool) (w : World) (hr0_0 : Kd.C (Kd.int .u32) w A0_0 l0_0.length l0_0) (hc0_0 : l0_0.length ≤ c0_0) (hr1_0 : Kd.C (Kd.int .u32) w A1_0 l1_0.length l1_0) (hc1_0 : l1_0.length ≤ c1_0) (h : laws_eqMem.f k l0_0 l1_0 = some r) :
  Calls Tryz.prog 25 #[.agg #[.slice A0_0 l0_0.length c0_0], .agg #[.slice A1_0 l1_0.length c1_0]] w fun e w' => e = .returned (.bool r) ∧ Below w.heap.size w w' := by
 have hu34 := Tryz.underlying34
 have HR0_0 := Aside0.mk hr0_0
 have HC0_0 := Aside0.mk hc0_0
 clear hr0_0 hc0_0
 have HR1_0 := Aside0.mk hr1_0
 have HC1_0 := Aside0.mk hc1_0
 clear hr1_0 hc1_0
 have HB := Aside0.mk (Below.refl w.heap.size w)
 unfold laws_eqMem.f at h
 have H := h
 clear h
 replace H := bn H
 obtain ⟨t433, A3, H⟩ := H
 try dsimp only at H
 have HU4 := Aside0.mk H
 clear H
 go_enter Tryz.func25, Tryz.ntmps25
 go_upto_if 10 with (first | ((with_reducible refine gd 2 ?_); refine bx 2 34 #[.slice A0_0 l0_0.length c0_0] ?_; clear HB; intro gb431 w5 hg BK431 hb GE431 HB; clear hb hg) | ((with_reducible refine gd 3 ?_); refine bx 3 34 #[.slice A1_0 l1_0.length c1_0] ?_; clear HB; intro gb432 w6 hg BK432 hb GE432 HB; have NB431_432 := nl BK431 hg; have NB432_431 := ng BK431 hg; replace BK431 := b_ BK431 hb; clear hb hg; have hnb7 := NB431_432.out; have hnc7 := NB432_431.out; have z8_0 := ca1 BK431; have f8_0 := blk_frozen BK431.out 0; have z9_0 := ca1 BK432; have f9_0 := blk_frozen BK432.out 0) | ((with_reducible refine gf 51 ?_); refine gc Tryz.func51 (some 9) (laws_eqUint32S.calls _ A0_0 c0_0 _ A1_0 c1_0 _ _ _ (cb HR0_0) HC0_0.out (cb HR1_0) HC1_0.out A3.out) ?_; rintro e w' ⟨rfl, ⟨nd, rfl⟩⟩; refine ⟨_, rfl, ?_⟩))
 (try refine ap ?_)
 have H := HU4.out
 clear HU4
 replace H := ib H
 rcases H with ⟨rfl, H⟩ | ⟨rfl, H⟩
 ·(try simp only [Bool.not_true, Bool.not_false])
  obtain rfl := Option.some.inj H
  go_wp2
  go_ret
  exact ⟨rt, bw⟩
 ·(try simp only [Bool.not_true, Bool.not_false])
  obtain rfl := Option.some.inj H
  go_wp2
  go_ret
  exact ⟨rt, bw⟩

/-! ### laws_eqWarp: function 52 -/
def laws_eqWarp.f (k : Nat) (a0_0 : Int) (l0_1 : List Int) (l0_2 : List Int) (a0_3 : Int) (a0_4 : Int) (a0_5 : Int) (a0_6 : Int) (a0_7 : Int) (a1_0 : Int) (l1_1 : List Int) (l1_2 : List Int) (a1_3 : Int) (a1_4 : Int) (a1_5 : Int) (a1_6 : Int) (a1_7 : Int) : Option (Bool) := if a0_0 = a1_0 then ((laws_eqIntS.f k l0_1 l1_1).bind fun t436 => (if t436 = true then ((laws_eqIntS.f k l0_2 l1_2).bind fun t437 => (if t437 = true then (if a0_3 = a1_3 then (if a0_4 = a1_4 then (if a0_5 = a1_5 then (if a0_6 = a1_6 then (if a0_7 = a1_7 then (some true) else (some false)) else (some false)) else (some false)) else (some false)) else (some false)) else (some false))) else (some false))) else (some false)
theorem laws_eqWarp.mono : ∀ a0 a1 a2 a3 a4 a5 a6 a7 a8 a9 a10 a11 a12 a13 a14 a15 k, LeO (laws_eqWarp.f k a0 a1 a2 a3 a4 a5 a6 a7 a8 a9 a10 a11 a12 a13 a14 a15) (laws_eqWarp.f (k + 1) a0 a1 a2 a3 a4 a5 a6 a7 a8 a9 a10 a11 a12 a13 a14 a15) := by
 intro a0 a1 a2 a3 a4 a5 a6 a7 a8 a9 a10 a11 a12 a13 a14 a15 k
 unfold laws_eqWarp.f
 repeat' first
  | (with_reducible first | exact laws_eqIntS.mono .. | exact LeO.refl _ | exact LeO.none _ | refine LeO.ite ?_ ?_ | refine LeO.bind ?_ (fun _ => ?_))
  | exact LeO.none _ | refine LeO.ite ?_ ?_ | refine LeO.bind ?_ (fun _ => ?_)
set_option maxHeartbeats 2000000 in
set_option maxRecDepth 100000 in
theorem laws_eqWarp.calls (k : Nat) (a0_0 : Int) (A0_1 : Option Addr) (c0_1 : Nat) (l0_1 : List Int) (A0_2 : Option Addr) (c0_2 : Nat) (l0_2 : List Int) (a0_3 : Int) (a0_4 : Int) (a0_5 : Int) (a0_6 : Int) (a0_7 : Int) (a1_0 : Int) (A1_1 : Option Addr) (c1_1 : Nat) (l1_1 : List Int) (A1_2 : Option Addr) (c1_2 : Nat) (l1_2 : List Int) (a1_3 : Int) (a1_4 : Int) (a1_5 : Int) (a1_6 : Int) (a1_7 : Int) (r : Bool) (w : World) (hr0_1 : Kd.C (Kd.int .i64) w A0_1 l0_1.length l0_1) (hc0_1 : l0_1.length ≤ c0_1) (hr0_2 : Kd.C (Kd.int .i64) w A0_2 l0_2.length l0_2) (hc0_2 : l0_2.length ≤ c0_2) (hr1_1 : Kd.C (Kd.int .i64) w A1_1 l1_1.length l1_1) (hc1_1 : l1_1.length ≤ c1_1) (hr1_2 : Kd.C (Kd.int .i64) w A1_2 l1_2.length l1_2) (hc1_2 : l1_2.length ≤ c1_2) (h : laws_eqWarp.f k a0_0 l0_1 l0_2 a0_3 a0_4 a0_5 a0_6 a0_7 a1_0 l1_1 l1_2 a1_3 a1_4 a1_5 a1_6 a1_7 = some r) :
  Calls Tryz.prog 52 #[.agg #[.int .i64 a0_0, .slice A0_1 l0_1.length c0_1, .slice A0_2 l0_2.length c0_2, .int .u32 a0_3, .int .i64 a0_4, .int .i64 a0_5, .int .i64 a0_6, .int .u32 a0_7], .agg #[.int .i64 a1_0, .slice A1_1 l1_1.length c1_1, .slice A1_2 l1_2.length c1_2, .int .u32 a1_3, .int .i64 a1_4, .int .i64 a1_5, .int .i64 a1_6, .int .u32 a1_7]] w fun e w' => e = .returned (.bool r) ∧ Below w.heap.size w w' := by
 have hu49 := Tryz.underlying49
 have HR0_1 := Aside0.mk hr0_1
 have HC0_1 := Aside0.mk hc0_1
 clear hr0_1 hc0_1
 have HR0_2 := Aside0.mk hr0_2
 have HC0_2 := Aside0.mk hc0_2
 clear hr0_2 hc0_2
 have HR1_1 := Aside0.mk hr1_1
 have HC1_1 := Aside0.mk hc1_1
 clear hr1_1 hc1_1
 have HR1_2 := Aside0.mk hr1_2
 have HC1_2 := Aside0.mk hc1_2
 clear hr1_2 hc1_2
 have HB := Aside0.mk (Below.refl w.heap.size w)
 unfold laws_eqWarp.f at h
 have H := h
 clear h
 have HU3 := Aside0.mk H
 clear H
 go_enter Tryz.func52, Tryz.ntmps52
 go_upto_if 9 with (first | ((with_reducible refine gd 2 ?_); refine bx 2 49 #[.int .i64 a0_0, .slice A0_1 l0_1.length c0_1, .slice A0_2 l0_2.length c0_2, .int .u32 a0_3, .int .i64 a0_4, .int .i64 a0_5, .int .i64 a0_6, .int .u32 a0_7] ?_; clear HB; intro gb434 w4 hg BK434 hb GE434 HB; clear hb hg) | ((with_reducible refine gd 3 ?_); refine bx 3 49 #[.int .i64 a1_0, .slice A1_1 l1_1.length c1_1, .slice A1_2 l1_2.length c1_2, .int .u32 a1_3, .int .i64 a1_4, .int .i64 a1_5, .int .i64 a1_6, .int .u32 a1_7] ?_; clear HB; intro gb435 w5 hg BK435 hb GE435 HB; have NB434_435 := nl BK434 hg; have NB435_434 := ng BK434 hg; replace BK434 := b_ BK434 hb; clear hb hg; have hnb6 := NB434_435.out; have hnc6 := NB435_434.out; obtain ⟨z7_0, z7_1, z7_2, z7_3, z7_4, z7_5, z7_6, z7_7⟩ := ca8 BK434; obtain ⟨f7_0, f7_1, f7_2, f7_3, f7_4, f7_5, f7_6, f7_7⟩ := fa8 BK434; obtain ⟨z8_0, z8_1, z8_2, z8_3, z8_4, z8_5, z8_6, z8_7⟩ := ca8 BK435; obtain ⟨f8_0, f8_1, f8_2, f8_3, f8_4, f8_5, f8_6, f8_7⟩ := fa8 BK435))
 (try refine ap ?_)
 have H := HU3.out
 clear HU3
 replace H := ieq H
 rcases H with ⟨c9b0, c9b1, H⟩ | ⟨c9, c9b0, c9b1, H⟩
 ·(first | rw [c9b0] | (simp only [i64_w, i32_w]; rw [c9b0]) | (simp only [c9b2, Bool.not_true, Bool.not_false]) | (simp only [c9b1, Bool.not_true, Bool.not_false]) | skip)
  replace H := bn H
  obtain ⟨t436, A10, H⟩ := H
  try dsimp only at H
  have HU11 := Aside0.mk H
  clear H
  have hnb12 := NB434_435.out
  have hnc12 := NB435_434.out
  obtain ⟨z13_0, z13_1, z13_2, z13_3, z13_4, z13_5, z13_6, z13_7⟩ := ca8 BK434
  obtain ⟨f13_0, f13_1, f13_2, f13_3, f13_4, f13_5, f13_6, f13_7⟩ := fa8 BK434
  obtain ⟨z14_0, z14_1, z14_2, z14_3, z14_4, z14_5, z14_6, z14_7⟩ := ca8 BK435
  obtain ⟨f14_0, f14_1, f14_2, f14_3, f14_4, f14_5, f14_6, f14_7⟩ := fa8 BK435
  go_upto_if 15 with (first | ((with_reducible refine gf 24 ?_); refine gc Tryz.func24 (some 14) (laws_eqIntS.calls _ A0_1 c0_1 _ A1_1 c1_1 _ _ _ (cb HR0_1) HC0_1.out (cb HR1_1) HC1_1.out A10.out) ?_; rintro e w' ⟨rfl, ⟨nd, rfl⟩⟩; refine ⟨_, rfl, ?_⟩))
  (try refine ap ?_)
  have H := HU11.out
  clear HU11
  replace H := ib H
  rcases H with ⟨rfl, H⟩ | ⟨rfl, H⟩
  ·(try simp only [Bool.not_true, Bool.not_false])
   replace H := bn H
   obtain ⟨t437, A16, H⟩ := H
   try dsimp only at H
   have HU17 := Aside0.mk H
   clear H
   have hnb18 := NB434_435.out
   have hnc18 := NB435_434.out
   obtain ⟨z19_0, z19_1, z19_2, z19_3, z19_4, z19_5, z19_6, z19_7⟩ := ca8 BK434
   obtain ⟨f19_0, f19_1, f19_2, f19_3, f19_4, f19_5, f19_6, f19_7⟩ := fa8 BK434
   obtain ⟨z20_0, z20_1, z20_2, z20_3, z20_4, z20_5, z20_6, z20_7⟩ := ca8 BK435
   obtain ⟨f20_0, f20_1, f20_2, f20_3, f20_4, f20_5, f20_6, f20_7⟩ := fa8 BK435
   go_upto_if 21 with (first | ((with_reducible refine gf 24 ?_); refine gc Tryz.func24 (some 20) (laws_eqIntS.calls _ A0_2 c0_2 _ A1_2 c1_2 _ _ _ (cb HR0_2) HC0_2.out (cb HR1_2) HC1_2.out A16.out) ?_; rintro e w' ⟨rfl, ⟨nd, rfl⟩⟩; refine ⟨_, rfl, ?_⟩))
   (try refine ap ?_)
   have H := HU17.out
   clear HU17
   replace H := ib H
   rcases H with ⟨rfl, H⟩ | ⟨rfl, H⟩
   ·(try simp only [Bool.not_true, Bool.not_false])
    replace H := ieq H
    rcases H with ⟨c22b0, c22b1, H⟩ | ⟨c22, c22b0, c22b1, H⟩
    ·replace H := ieq H
     rcases H with ⟨c23b0, c23b1, H⟩ | ⟨c23, c23b0, c23b1, H⟩
     ·replace H := ieq H
      rcases H with ⟨c24b0, c24b1, H⟩ | ⟨c24, c24b0, c24b1, H⟩
      ·replace H := ieq H
       rcases H with ⟨c25b0, c25b1, H⟩ | ⟨c25, c25b0, c25b1, H⟩
       ·replace H := ieq H
        rcases H with ⟨c26b0, c26b1, H⟩ | ⟨c26, c26b0, c26b1, H⟩
        ·obtain rfl := Option.some.inj H
         have hnb27 := NB434_435.out
         have hnc27 := NB435_434.out
         obtain ⟨z28_0, z28_1, z28_2, z28_3, z28_4, z28_5, z28_6, z28_7⟩ := ca8 BK434
         obtain ⟨f28_0, f28_1, f28_2, f28_3, f28_4, f28_5, f28_6, f28_7⟩ := fa8 BK434
         obtain ⟨z29_0, z29_1, z29_2, z29_3, z29_4, z29_5, z29_6, z29_7⟩ := ca8 BK435
         obtain ⟨f29_0, f29_1, f29_2, f29_3, f29_4, f29_5, f29_6, f29_7⟩ := fa8 BK435
         go_wp2
         go_ret
         exact ⟨rt, bw⟩
        ·obtain rfl := Option.some.inj H
         have hnb30 := NB434_435.out
         have hnc30 := NB435_434.out
         obtain ⟨z31_0, z31_1, z31_2, z31_3, z31_4, z31_5, z31_6, z31_7⟩ := ca8 BK434
         obtain ⟨f31_0, f31_1, f31_2, f31_3, f31_4, f31_5, f31_6, f31_7⟩ := fa8 BK434
         obtain ⟨z32_0, z32_1, z32_2, z32_3, z32_4, z32_5, z32_6, z32_7⟩ := ca8 BK435
         obtain ⟨f32_0, f32_1, f32_2, f32_3, f32_4, f32_5, f32_6, f32_7⟩ := fa8 BK435
         go_wp2
         go_ret
         exact ⟨rt, bw⟩
       ·obtain rfl := Option.some.inj H
        have hnb33 := NB434_435.out
        have hnc33 := NB435_434.out
        obtain ⟨z34_0, z34_1, z34_2, z34_3, z34_4, z34_5, z34_6, z34_7⟩ := ca8 BK434
        obtain ⟨f34_0, f34_1, f34_2, f34_3, f34_4, f34_5, f34_6, f34_7⟩ := fa8 BK434
        obtain ⟨z35_0, z35_1, z35_2, z35_3, z35_4, z35_5, z35_6, z35_7⟩ := ca8 BK435
        obtain ⟨f35_0, f35_1, f35_2, f35_3, f35_4, f35_5, f35_6, f35_7⟩ := fa8 BK435
        go_wp2
        go_ret
        exact ⟨rt, bw⟩
      ·obtain rfl := Option.some.inj H
       have hnb36 := NB434_435.out
       have hnc36 := NB435_434.out
       obtain ⟨z37_0, z37_1, z37_2, z37_3, z37_4, z37_5, z37_6, z37_7⟩ := ca8 BK434
       obtain ⟨f37_0, f37_1, f37_2, f37_3, f37_4, f37_5, f37_6, f37_7⟩ := fa8 BK434
       obtain ⟨z38_0, z38_1, z38_2, z38_3, z38_4, z38_5, z38_6, z38_7⟩ := ca8 BK435
       obtain ⟨f38_0, f38_1, f38_2, f38_3, f38_4, f38_5, f38_6, f38_7⟩ := fa8 BK435
       go_wp2
       go_ret
       exact ⟨rt, bw⟩
     ·obtain rfl := Option.some.inj H
      have hnb39 := NB434_435.out
      have hnc39 := NB435_434.out
      obtain ⟨z40_0, z40_1, z40_2, z40_3, z40_4, z40_5, z40_6, z40_7⟩ := ca8 BK434
      obtain ⟨f40_0, f40_1, f40_2, f40_3, f40_4, f40_5, f40_6, f40_7⟩ := fa8 BK434
      obtain ⟨z41_0, z41_1, z41_2, z41_3, z41_4, z41_5, z41_6, z41_7⟩ := ca8 BK435
      obtain ⟨f41_0, f41_1, f41_2, f41_3, f41_4, f41_5, f41_6, f41_7⟩ := fa8 BK435
      go_wp2
      go_ret
      exact ⟨rt, bw⟩
    ·obtain rfl := Option.some.inj H
     have hnb42 := NB434_435.out
     have hnc42 := NB435_434.out
     obtain ⟨z43_0, z43_1, z43_2, z43_3, z43_4, z43_5, z43_6, z43_7⟩ := ca8 BK434
     obtain ⟨f43_0, f43_1, f43_2, f43_3, f43_4, f43_5, f43_6, f43_7⟩ := fa8 BK434
     obtain ⟨z44_0, z44_1, z44_2, z44_3, z44_4, z44_5, z44_6, z44_7⟩ := ca8 BK435
     obtain ⟨f44_0, f44_1, f44_2, f44_3, f44_4, f44_5, f44_6, f44_7⟩ := fa8 BK435
     go_wp2
     go_ret
     exact ⟨rt, bw⟩
   ·(try simp only [Bool.not_true, Bool.not_false])
    obtain rfl := Option.some.inj H
    go_wp2
    go_ret
    exact ⟨rt, bw⟩
  ·(try simp only [Bool.not_true, Bool.not_false])
   obtain rfl := Option.some.inj H
   go_wp2
   go_ret
   exact ⟨rt, bw⟩
 ·(first | rw [c9b0] | (simp only [i64_w, i32_w]; rw [c9b0]) | (simp only [c9b2, Bool.not_true, Bool.not_false]) | (simp only [c9b1, Bool.not_true, Bool.not_false]) | skip)
  obtain rfl := Option.some.inj H
  go_wp2
  go_ret
  exact ⟨rt, bw⟩

end Go.Proofs.YtobboonnfocalaaGreatDoor.PG1
