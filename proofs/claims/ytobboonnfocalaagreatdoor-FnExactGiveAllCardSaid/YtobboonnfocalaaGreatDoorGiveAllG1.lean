/- A request that gives back the first live blocks of a machine. Conditions: none. -/
import Derived.Test.YtobboonnfocalaaGreatDoorPG1x3
import Derived.Test.YtobboonnfocalaaGreatDoorOwnersG1
import Derived.Test.YtobboonnfocalaaGreatDoorRepNG1
set_option linter.unusedVariables false
set_option linter.unusedSimpArgs false
namespace Go.Proofs.YtobboonnfocalaaGreatDoor.PG1
open Go.RowKit Go.Lib Go.Proofs.YtobboonnfocalaaGreatDoor.Sl Go.Proofs.YtobboonnfocalaaGreatDoorW.PrintWords Go.Proofs.YtobboonnfocalaaGreatDoorW.PrintLast Go.Proofs.YtobboonnfocalaaGreatDoorW.PrintMore

/-! ### impl_GiveAll: function 7 -/
/-- The row behind m blocks. -/
def gv (L : List S55) (m : Nat) : List Int := ((L.take m).take 8).map (fun b => b.f0) ++ List.replicate (8 - min m 8) (-1)
theorem gv_zero (L : List S55) : gv L 0 = List.replicate 8 (-1) := by simp [gv]
theorem gv_len (L : List S55) (m : Nat) (h : m ≤ L.length) : (gv L m).length = 8 := by
  simp only [gv, List.length_append, List.length_map, List.length_take, List.length_replicate]
  omega
theorem gv_ge (L : List S55) (m : Nat) (h : 8 ≤ m) : gv L (m + 1) = gv L m := by
  unfold gv
  rw [List.take_take, List.take_take, Nat.min_eq_left (show 8 ≤ m + 1 by omega), Nat.min_eq_left h, Nat.min_eq_right (show 8 ≤ m + 1 by omega), Nat.min_eq_right h]
theorem gv_lt (L : List S55) (m : Nat) (h : m < L.length) (h8 : m < 8) : gv L (m + 1) = (gv L m).set m (rd_T55 L (m : Int)).f0 := by
  have hr : rd_T55 L (m : Int) = L[m] := by simp [rd_T55, List.getD_eq_getElem?_getD, h]
  apply List.ext_getElem?
  intro j
  unfold gv
  rw [List.take_take, List.take_take, Nat.min_eq_right (show m + 1 ≤ 8 by omega), Nat.min_eq_right (show m ≤ 8 by omega), Nat.min_eq_left (show m + 1 ≤ 8 by omega), Nat.min_eq_left (show m ≤ 8 by omega), List.getElem?_set]
  have hl : ((L.take m).map fun b => b.f0).length = m := by simp; omega
  have hl1 : ((L.take (m + 1)).map fun b => b.f0).length = m + 1 := by simp; omega
  by_cases c : m = j
  · subst c
    rw [if_pos rfl, if_pos (by simp; omega), List.getElem?_append_left (by omega), List.getElem?_map, List.getElem?_take, if_pos (by omega), List.getElem?_eq_getElem h, hr]
    rfl
  · rw [if_neg c]
    by_cases d : j < m
    · rw [List.getElem?_append_left (by omega), List.getElem?_append_left (by omega), List.getElem?_map, List.getElem?_map, List.getElem?_take, List.getElem?_take, if_pos (by omega), if_pos d]
    · rw [List.getElem?_append_right (by omega), List.getElem?_append_right (by omega), hl, hl1, List.getElem?_replicate, List.getElem?_replicate]
      by_cases e : j < 8
      · rw [if_pos (by omega), if_pos (by omega)]
      · rw [if_neg (by omega), if_neg (by omega)]
def impl_GiveAll.f (k : Nat) (l0 : List Int) (l1 : List S49) (a1 : Int) : Option (Int × List Int × Bool) :=
  (impl_owners.f l0 l1).bind fun o => if o.2 = true then
    (if 0 ≤ a1 ∧ a1 ≤ (l1.length : Int) - 1 then
      (if (rd_T49 l1 a1).f0 = 0 then (impl_audit.f k l0).bind fun L => if L.length ≤ 100000 then some (2, gv L L.length, true) else none else some (0, [], false))
    else some (0, [], false))
  else some (0, [], false)
theorem impl_GiveAll.mono : ∀ a0 a1 a2 k, LeO (impl_GiveAll.f k a0 a1 a2) (impl_GiveAll.f (k + 1) a0 a1 a2) := by
  intro a0 a1 a2 k
  unfold impl_GiveAll.f
  repeat' first
    | (with_reducible first | exact impl_audit.mono .. | exact LeO.refl _ | exact LeO.none _ | refine LeO.ite ?_ ?_ | refine LeO.bind ?_ (fun _ => ?_))
    | exact LeO.none _ | refine LeO.ite ?_ ?_ | refine LeO.bind ?_ (fun _ => ?_)
set_option maxHeartbeats 4000000 in
set_option maxRecDepth 100000 in
theorem impl_GiveAll.calls (k : Nat) (A0_0 : Option Addr) (c0_0 : Nat) (l0_0 : List Int) (A0_1 : Option Addr) (c0_1 : Nat) (l0_1 : List S49) (a1 : Int) (r1 : Int) (r2 : List Int) (r3 : Bool) (w : World) (hr0_0 : Kd.C (Kd.int .u32) w A0_0 l0_0.length l0_0) (hc0_0 : l0_0.length ≤ c0_0) (hr0_1 : Kd.C k49 w A0_1 l0_1.length l0_1) (hc0_1 : l0_1.length ≤ c0_1) (h : impl_GiveAll.f k l0_0 l0_1 a1 = some (r1, r2, r3)) (hT : GT w) :
    Calls Tryz.prog 7 #[.agg #[.slice A0_0 l0_0.length c0_0, .slice A0_1 l0_1.length c0_1], .int .i64 a1] w fun e w' => ∃ v1_ : Value, e = .returned (.tuple #[.agg #[.int .i64 r1, v1_], .bool r3]) ∧ Kd.R (Kd.int .i64) 3 w' w.heap.size (fun _ => True) v1_ r2 ∧ Below w.heap.size w w' := by
  have hu1 := Tryz.underlying37
  have hu2 := Tryz.underlying34
  have hu3 := Tryz.underlying31
  have hu4 := Tryz.underlying55
  have hu5 := Tryz.underlying49
  unfold impl_GiveAll.f at h
  obtain ⟨⟨o1, o2⟩, ho, h⟩ := Option.bind_eq_some_iff.mp h
  have C1 : ∀ W, Below w.heap.size w W → Calls Tryz.prog 20 #[.agg #[.slice A0_0 l0_0.length c0_0, .slice A0_1 l0_1.length c0_1]] W fun e w' => ∃ v0_ : Value, e = .returned (.tuple #[v0_, .bool o2]) ∧ Kd.R (Kd.int .i64) 3 w' W.heap.size (fun _ => True) v0_ o1 ∧ Below W.heap.size W w' :=
    fun W hW => impl_owners.calls A0_0 c0_0 l0_0 A0_1 c0_1 l0_1 o1 o2 W (Kd.C_below hr0_0 hW) hc0_0 (Kd.C_below hr0_1 hW) hc0_1 ho (hT.below hW)
  have C2 := fun W => within_any a1 0 ((l0_1.length : Int) - 1) W
  have HR0 := Aside0.mk hr0_0
  have HR1 := Aside0.mk hr0_1
  have hB2 : Below w.heap.size w ((w.alloc (.cells #[.slice A0_0 l0_0.length c0_0, .slice A0_1 l0_1.length c0_1] 37)).alloc (.cells #[.int .i64 0, .slice none 0 0] 31)) := ((Below.refl _ _).alloc (Nat.le_refl _) _).alloc (by rw [World.size_alloc]; omega) _
  have hm2 : ((w.alloc (.cells #[.slice A0_0 l0_0.length c0_0, .slice A0_1 l0_1.length c0_1] 37)).alloc (.cells #[.int .i64 0, .slice none 0 0] 31)).heap[w.heap.size]? = some (.cells #[.slice A0_0 l0_0.length c0_0, .slice A0_1 l0_1.length c0_1] 37 (0, 0)) := blk_alloc (blk_new _ _) _
  have hn2 : ((w.alloc (.cells #[.slice A0_0 l0_0.length c0_0, .slice A0_1 l0_1.length c0_1] 37)).alloc (.cells #[.int .i64 0, .slice none 0 0] 31)).heap[w.heap.size + 1]? = some (.cells #[.int .i64 0, .slice none 0 0] 31 (0, 0)) := by
    have := blk_new (w.alloc (.cells #[.slice A0_0 l0_0.length c0_0, .slice A0_1 l0_1.length c0_1] 37)) (.cells #[.int .i64 0, .slice none 0 0] 31)
    rw [World.size_alloc] at this
    exact this
  have sl : IntKind.i64.wrap ((l0_1.length : Int) - 1) = (l0_1.length : Int) - 1 := (i64_w _).trans (by have := hr0_1.2.1; unfold wrap64; omega)
  have hge : w.heap.size ≤ w.heap.size + 1 := Nat.le_succ _
  clear hr0_0 hr0_1 hT ho
  cases o2 with
  | false =>
    rw [if_neg (by simp)] at h
    injection h with h
    injection h with e1 h
    injection h with e2 e3
    subst e1
    subst e2
    subst e3
    go_enter Tryz.func7, Tryz.ntmps7
    go_wp2_with (first | (go_at_call 20; refine (C1 _ hB2).mono ?_; rintro e w3 ⟨v3, rfl, hv3, hb3⟩; have q2 := blk_below hn2 hb3; have BM := Aside0.mk (blk_below hm2 hb3); have HB := Aside0.mk (below_then hB2 hB2.size hb3); have z0 := blk_frozen q2 0; have z1 := blk_frozen q2 1; have y0 : w3.cell? ⟨w.heap.size + 1, 0, none⟩ = some (.int .i64 0) := (blk_cell q2 0).trans rfl; have y1 : w3.cell? ⟨w.heap.size + 1, 1, none⟩ = some (.slice none 0 0) := (blk_cell q2 1).trans rfl; have x1 : w3.cell? ⟨w.heap.size, 1, none⟩ = some (.slice A0_1 l0_1.length c0_1) := (blk_cell BM.out 1).trans rfl; have x0 : w3.cell? ⟨w.heap.size, 0, none⟩ = some (.slice A0_0 l0_0.length c0_0) := (blk_cell BM.out 0).trans rfl) | (go_at_call 21; refine (C2 _).mono ?_; rintro e w4 ⟨rfl, ⟨nd, rfl⟩⟩))
    refine bodyPost_ret (results_ct rfl _ _ (w.heap.size + 1) 31 #[.int .i64 0, .slice none 0 0] (0, 0) _ rfl (by (with_reducible repeat (first | refine blk_drewN ?_ _ | refine blk_drew ?_ | refine blk_alloc ?_ _)); refine blk_put (cs := #[.int .i64 0, .slice none 0 0]) ?_ 1 _ rfl; (with_reducible repeat (first | refine blk_drewN ?_ _ | refine blk_drew ?_ | refine blk_alloc ?_ _)); refine blk_put (cs := #[.int .i64 0, .slice none 0 0]) ?_ 0 _ rfl; (with_reducible repeat (first | refine blk_drewN ?_ _ | refine blk_drew ?_ | refine blk_alloc ?_ _)); exact q2) Tryz.underlying31 rfl (by kernel_rfl)) rfl ?_
    exact ⟨_, rfl, Kd.R_nil _ _ _ _ _, below_set (below_set HB.out hge) hge⟩
  | true =>
    rw [if_pos rfl] at h
    by_cases d1 : 0 ≤ a1 ∧ a1 ≤ (l0_1.length : Int) - 1
    · rw [if_pos d1] at h
      rw [decide_eq_true d1] at C2
      obtain ⟨ad, A1, c1, A2, c2, ead, hx0, hx1, hx2, hx3, hx4, hx5, hx6, hx7, hl1, hi1, hl2, hi2⟩ := at_T49 HR1.out a1 (by omega) (by omega)
      cases ead
      have p1 : (0 ≤ a1) = True := eq_true (by omega)
      have q1 : (a1 < (l0_1.length : Int)) = True := eq_true (by omega)
      have hk : ∀ W, Below w.heap.size w W → W.cell? (ad.add (a1.toNat * 8)) = some (.int .i64 (rd_T49 l0_1 a1).f0) := fun W hW => pw_cell_below hW hx0
      clear hl1 hi1 hl2 hi2 hx1 hx2 hx3 hx4 hx5 hx6 hx7 hx0
      generalize (rd_T49 l0_1 a1).f0 = kd at h hk
      by_cases d2 : kd = 0
      · rw [if_pos d2] at h
        obtain ⟨L, hL, h⟩ := Option.bind_eq_some_iff.mp h
        split at h
        · rename_i hLn
          injection h with h
          injection h with e1 h
          injection h with e2 e3
          subst e1
          subst e2
          subst e3
          have d3 : (kd != 0) = false := by rw [d2]; rfl
          have d4 : (kd == 0) = true := by rw [d2]; rfl
          have C4 := fun W => RepeatN 8 (by omega) W
          have C5 : ∀ W, Below w.heap.size w W → Calls Tryz.prog 23 #[.agg #[.slice A0_0 l0_0.length c0_0]] W fun e w' => ∃ v0_ : Value, e = .returned v0_ ∧ Kd.R k55 55 w' W.heap.size (fun _ => True) v0_ L ∧ Below W.heap.size W w' :=
            fun W hW => impl_audit.calls k A0_0 c0_0 l0_0 L W (Kd.C_below HR0.out hW) hc0_0 hL
          clear d2
          go_enter Tryz.func7, Tryz.ntmps7
          go_upto_region 4 with (first | (go_at_call 20; refine (C1 _ hB2).mono ?_; rintro e w3 ⟨v3, rfl, hv3, hb3⟩; have q2 := blk_below hn2 hb3; have BM := Aside0.mk (blk_below hm2 hb3); have HB := Aside0.mk (below_then hB2 hB2.size hb3); have z0 := blk_frozen q2 0; have z1 := blk_frozen q2 1; have y0 : w3.cell? ⟨w.heap.size + 1, 0, none⟩ = some (.int .i64 0) := (blk_cell q2 0).trans rfl; have y1 : w3.cell? ⟨w.heap.size + 1, 1, none⟩ = some (.slice none 0 0) := (blk_cell q2 1).trans rfl; have x1 : w3.cell? ⟨w.heap.size, 1, none⟩ = some (.slice (some ad) l0_1.length c0_1) := (blk_cell BM.out 1).trans rfl; have x0 : w3.cell? ⟨w.heap.size, 0, none⟩ = some (.slice A0_0 l0_0.length c0_0) := (blk_cell BM.out 0).trans rfl; have x2 := hk w3 HB.out) | (go_at_call 21; refine (C2 _).mono ?_; rintro e w4 ⟨rfl, ⟨nd, rfl⟩⟩))
          have hB4 : Below w.heap.size w ((w3.drewN nd).alloc (.cells #[.int .i64 (-1)] 3)) := (pw_below_drewN HB.out nd).alloc (pw_below_drewN HB.out nd).size _
          have BM4 := blk_alloc (blk_drewN BM.out nd) (.cells #[.int .i64 (-1)] 3)
          have BR4 := blk_alloc (blk_drewN q2 nd) (.cells #[.int .i64 (-1)] 3)
          clear x0 x1 x2 y0 y1 z0 z1
          go_upto_region 5 with (first | (go_at_call 22; refine (C4 _ _ 3 (blk_new _ _)).mono ?_; rintro e w5 ⟨v5, rfl, hv5, hb5⟩; obtain ⟨gw, cw, rfl, gwb, gwl, _⟩ := Kd.R_form hv5 (by simp)))
          have e3 : (w3.drewN nd).heap.size = w3.heap.size := rfl
          have hs3 : w.heap.size + 1 < w3.heap.size := blk_lt q2
          have hs5 := hb5.size
          rw [World.size_alloc, e3] at hs5
          have hgl : w.heap.size + 1 < w5.heap.size := by omega
          have hg2 : gw ≠ w.heap.size + 1 ∧ gw ≠ w5.heap.size ∧ gw ≠ w.heap.size := by rw [World.size_alloc, e3] at gwb; omega
          have M6 := Aside0.mk (blk_alloc (blk_below BM4 hb5) (.cells #[.int .i64 2, .slice (some ⟨gw, 0, none⟩) 8 cw] 31))
          have R6 := Aside0.mk (blk_alloc (blk_below BR4 hb5) (.cells #[.int .i64 2, .slice (some ⟨gw, 0, none⟩) 8 cw] 31))
          have X6 := Aside0.mk (blk_new w5 (.cells #[.int .i64 2, .slice (some ⟨gw, 0, none⟩) 8 cw] 31))
          have HB5 := below_then hB4 hB4.size hb5
          have B6 := Aside0.mk (HB5.alloc HB5.size (.cells #[.int .i64 2, .slice (some ⟨gw, 0, none⟩) 8 cw] 31))
          have O6 := Aside0.mk (Kd.R_alloc (Kd.R_lower (Kd.R_mono (ok' := fun k => k ≠ w.heap.size + 1 ∧ k ≠ w5.heap.size ∧ k ≠ w.heap.size) (Kd.R_bound hv5) (fun k hk => by have h1 := hk.2.1; have h2 := hk.2.2.1; rw [World.size_alloc, e3] at h1; omega)) (show w.heap.size ≤ _ by rw [World.size_alloc, e3]; omega)) (.cells #[.int .i64 2, .slice (some ⟨gw, 0, none⟩) 8 cw] 31))
          have N6 : gw < (w5.alloc (.cells #[.int .i64 2, .slice (some ⟨gw, 0, none⟩) 8 cw] 31)).heap.size ∧ w5.heap.size < (w5.alloc (.cells #[.int .i64 2, .slice (some ⟨gw, 0, none⟩) 8 cw] 31)).heap.size := by rw [World.size_alloc]; omega
          clear hv5 hb5 HB5 BM4 BR4 hB4 HB BM q2 hb3 hv3 hm2 hn2 hB2 gwl gwb C1 C2 C4 hk hs3 hs5
          rw [List.length_replicate] at O6
          generalize hW6 : w5.alloc (.cells #[.int .i64 2, .slice (some ⟨gw, 0, none⟩) 8 cw] 31) = w6 at M6 R6 X6 B6 O6 N6 ⊢
          clear hW6
          generalize w5.heap.size = gr at M6 R6 X6 B6 O6 N6 hgl hg2 ⊢
          have z0 : w6.cell? ⟨w.heap.size, 0, none⟩ = some (.slice A0_0 l0_0.length c0_0) := (blk_cell M6.out 0).trans rfl
          go_wp2_with (first | (go_at_call 23; refine (C5 _ B6.out).mono ?_; rintro e w7 ⟨v7, rfl, hv7, hb7⟩; obtain ⟨A7, c7, rfl⟩ := Kd.R_slice hv7))
          have R7 := Aside0.mk (blk_below R6.out hb7)
          have X7 := Aside0.mk (blk_below X6.out hb7)
          have B7 := Aside0.mk (below_then B6.out B6.out.size hb7)
          have O7 := Aside0.mk (Kd.R_below O6.out hb7)
          have L7 := Aside0.mk (Kd.R_lower (Kd.R_mono (ok' := fun k => k ≠ gw ∧ k ≠ gr ∧ k ≠ w.heap.size + 1) (Kd.R_bound hv7) (fun k hk => by have h1 := hk.2.1; omega)) B6.out.size)
          clear M6 R6 X6 B6 O6 N6 z0 hv7 hb7 C5 h
          clear h hL HR1 HR0 sl d3 d4 p1 q1 d1 e3 hge hc0_0 hc0_1
          rw [← gv_zero L] at O7
          go_loopg [44] L.length (fun gg v44 wr => ∃ (c : Nat), v44 = .int .i64 c ∧ (c ≤ L.length ∧ L.length - c ≤ gg) ∧ Aside0 (Kd.R (Kd.int .i64) 3 wr w.heap.size (fun k => k ≠ w.heap.size + 1 ∧ k ≠ gr ∧ k ≠ w.heap.size) (.slice (some ⟨gw, 0, none⟩) 8 cw) (gv L c)) ∧ Aside0 (Kd.R k55 55 wr w.heap.size (fun k => k ≠ gw ∧ k ≠ gr ∧ k ≠ w.heap.size + 1) (.slice A7 L.length c7) L) ∧ Aside0 (wr.heap[w.heap.size + 1]? = some (.cells #[.int .i64 0, .slice none 0 0] 31 (0, 0))) ∧ Aside0 (wr.heap[gr]? = some (.cells #[.int .i64 2, .slice (some ⟨gw, 0, none⟩) 8 cw] 31 (0, 0))) ∧ Aside0 (Below w.heap.size w wr))
          case atStart => exact ⟨0, rfl, by omega, O7, L7, R7, X7, B7⟩
          case round =>
            clear O7 L7 R7 X7 B7
            obtain ⟨c, rfl, hc, O, LR, RR, XX, B⟩ := hrel
            by_cases d1 : c < L.length
            · have d1b : decide ((c : Int) < (L.length : Int)) = true := decide_eq_true (by omega)
              obtain ⟨hC1, hC2, hC⟩ := Kd.R_reads' LR.out
              have p1 : 0 ≤ (c : Int) := by omega
              have q1 : (c : Int) < (L.length : Int) := by omega
              obtain ⟨ad, ead, hx0, hx1⟩ := at_T55 hC (c : Int) p1 q1
              cases ead
              simp only [Int.toNat_natCast] at hx0 hx1
              replace p1 := eq_true p1
              replace q1 := eq_true q1
              have hgv : (c < 8 → gv L (c + 1) = (gv L c).set c (rd_T55 L (c : Int)).f0) ∧ (8 ≤ c → gv L (c + 1) = gv L c) := ⟨gv_lt L c d1, gv_ge L c⟩
              have hgw := gv_len L c (Nat.le_of_lt d1)
              have s1 : IntKind.i64.wrap ((c : Int) + 1) = (c : Int) + 1 := (i64_w _).trans (by unfold wrap64; omega)
              generalize (rd_T55 L (c : Int)).f0 = x0 at hx0 hgv
              generalize (rd_T55 L (c : Int)).f1 = x1 at hx1
              clear hC hC1 hC2
              have HGV := Aside0.mk hgv
              have HGW := Aside0.mk hgw
              have HC := Aside0.mk hc
              clear hgv hgw hc
              go_upto_region 8 with (fail)
              have O8 := Aside0.mk (Kd.R_alloc O.out (.cells #[.int .i64 x0, .int .i64 x1] 55))
              have L8 := Aside0.mk (Kd.R_alloc LR.out (.cells #[.int .i64 x0, .int .i64 x1] 55))
              have R8 := Aside0.mk (blk_alloc RR.out (.cells #[.int .i64 x0, .int .i64 x1] 55))
              have X8 := Aside0.mk (blk_alloc XX.out (.cells #[.int .i64 x0, .int .i64 x1] 55))
              have N8 := Aside0.mk (blk_new wr (.cells #[.int .i64 x0, .int .i64 x1] 55))
              have B8 := Aside0.mk (B.out.alloc B.out.size (.cells #[.int .i64 x0, .int .i64 x1] 55))
              clear hx0 hx1 O LR RR XX B
              generalize wr.alloc (.cells #[.int .i64 x0, .int .i64 x1] 55) = w8 at O8 L8 R8 X8 N8 B8 ⊢
              generalize wr.heap.size = gb at N8 ⊢
              by_cases d8 : c < 8
              · have d8b : decide ((c : Int) < 8) = true := decide_eq_true (by omega)
                have p8 : ((c : Int) < 8) = True := eq_true (by omega)
                have y0 : w8.cell? ⟨gb, 0, none⟩ = some (.int .i64 x0) := (blk_cell N8.out 0).trans rfl
                have y1 : w8.cell? ⟨gr, 1, none⟩ = some (.slice (some ⟨gw, 0, none⟩) 8 cw) := (blk_cell X8.out 1).trans rfl
                obtain ⟨hy2, hf2⟩ := Kd.R_celln 0 O8.out (c : Int) (by omega) (by omega)
                have HP := Kd.R_putg O8.out (c : Int) x0
                have hg := HP.2
                have hp := HP.1
                simp only [Int.toNat_natCast] at hy2 hf2 hg hp
                have O9 := Aside0.mk hp
                have L9 := Aside0.mk (Kd.R_grown L8.out hg (fun k hk e => hk.1 (Option.some.inj e)))
                have R9 := Aside0.mk (blk_grown R8.out hg (by simpa using fun e => hg2.1 e.symm))
                have X9 := Aside0.mk (blk_grown X8.out hg (by simpa using fun e => hg2.2.1 e.symm))
                have B9 := Aside0.mk (below_set (j := c) (v := .int .i64 x0) B8.out (Kd.R_base O8.out gw rfl))
                rw [← HGV.out.1 d8] at O9
                clear HP hg hp O8 L8 R8 X8 B8
                go_wp2
                go_roundg (L.length - (c + 1))
                case measure => have := HC.out; omega
                case rel => exact ⟨c + 1, by simp [s1], by have := HC.out; omega, O9, L9, R9, X9, B9⟩
              · have d8b : decide ((c : Int) < 8) = false := decide_eq_false (by omega)
                rw [← HGV.out.2 (by omega)] at O8
                go_wp2
                go_roundg (L.length - (c + 1))
                case measure => have := HC.out; omega
                case rel => exact ⟨c + 1, by simp [s1], by have := HC.out; omega, O8, L8, R8, X8, B8⟩
            · have d1b : decide ((c : Int) < (L.length : Int)) = false := decide_eq_false (by omega)
              have z0 := blk_frozen RR.out 0
              have z1 := blk_frozen RR.out 1
              have y0 : wr.cell? ⟨w.heap.size + 1, 0, none⟩ = some (.int .i64 0) := (blk_cell RR.out 0).trans rfl
              have y1 : wr.cell? ⟨w.heap.size + 1, 1, none⟩ = some (.slice none 0 0) := (blk_cell RR.out 1).trans rfl
              have x0 : wr.cell? ⟨gr, 0, none⟩ = some (.int .i64 2) := (blk_cell XX.out 0).trans rfl
              have x1 : wr.cell? ⟨gr, 1, none⟩ = some (.slice (some ⟨gw, 0, none⟩) 8 cw) := (blk_cell XX.out 1).trans rfl
              have hge : w.heap.size ≤ w.heap.size + 1 := Nat.le_succ _
              have ec : c = L.length := by omega
              have O2 := O.out
              rw [ec] at O2
              have OO := Aside0.mk O2
              have HC := Aside0.mk hc
              have HE := Aside0.mk ec
              clear O O2 hc ec
              go_wp2
              refine bodyPost_ret (results_ct rfl _ _ (w.heap.size + 1) 31 #[.int .i64 2, .slice (some ⟨gw, 0, none⟩) 8 cw] (0, 0) _ rfl (by (with_reducible repeat (first | refine blk_drewN ?_ _ | refine blk_drew ?_ | refine blk_alloc ?_ _)); refine blk_put (cs := #[.int .i64 2, .slice none 0 0]) ?_ 1 _ rfl; refine blk_put (cs := #[.int .i64 0, .slice none 0 0]) ?_ 0 _ rfl; exact RR.out) Tryz.underlying31 rfl (by kernel_rfl)) rfl ?_
              refine ⟨_, rfl, Kd.R_mono (Kd.R_far (p := ⟨w.heap.size + 1, 1, none⟩) (Kd.R_far (p := ⟨w.heap.size + 1, 0, none⟩) OO.out (fun k hk => hk.1) _) (fun k hk => hk.1) _) (fun _ _ => trivial), below_set (below_set B.out hge) hge⟩
        · cases h
      · rw [if_neg d2] at h
        have d3 : (kd != 0) = true := bne_iff_ne.mpr d2
        have d4 : (kd == 0) = false := beq_eq_false_iff_ne.mpr d2
        injection h with h
        injection h with e1 h
        injection h with e2 e3
        subst e1
        subst e2
        subst e3
        go_enter Tryz.func7, Tryz.ntmps7
        go_wp2_with (first | (go_at_call 20; refine (C1 _ hB2).mono ?_; rintro e w3 ⟨v3, rfl, hv3, hb3⟩; have q2 := blk_below hn2 hb3; have BM := Aside0.mk (blk_below hm2 hb3); have HB := Aside0.mk (below_then hB2 hB2.size hb3); have z0 := blk_frozen q2 0; have z1 := blk_frozen q2 1; have y0 : w3.cell? ⟨w.heap.size + 1, 0, none⟩ = some (.int .i64 0) := (blk_cell q2 0).trans rfl; have y1 : w3.cell? ⟨w.heap.size + 1, 1, none⟩ = some (.slice none 0 0) := (blk_cell q2 1).trans rfl; have x1 : w3.cell? ⟨w.heap.size, 1, none⟩ = some (.slice (some ad) l0_1.length c0_1) := (blk_cell BM.out 1).trans rfl; have x0 : w3.cell? ⟨w.heap.size, 0, none⟩ = some (.slice A0_0 l0_0.length c0_0) := (blk_cell BM.out 0).trans rfl; have x2 := hk w3 HB.out) | (go_at_call 21; refine (C2 _).mono ?_; rintro e w4 ⟨rfl, ⟨nd, rfl⟩⟩))
        refine bodyPost_ret (results_ct rfl _ _ (w.heap.size + 1) 31 #[.int .i64 0, .slice none 0 0] (0, 0) _ rfl (by (with_reducible repeat (first | refine blk_drewN ?_ _ | refine blk_drew ?_ | refine blk_alloc ?_ _)); refine blk_put (cs := #[.int .i64 0, .slice none 0 0]) ?_ 1 _ rfl; (with_reducible repeat (first | refine blk_drewN ?_ _ | refine blk_drew ?_ | refine blk_alloc ?_ _)); refine blk_put (cs := #[.int .i64 0, .slice none 0 0]) ?_ 0 _ rfl; (with_reducible repeat (first | refine blk_drewN ?_ _ | refine blk_drew ?_ | refine blk_alloc ?_ _)); exact q2) Tryz.underlying31 rfl (by kernel_rfl)) rfl ?_
        exact ⟨_, rfl, Kd.R_nil _ _ _ _ _, below_set (below_set (pw_below_drewN HB.out _) hge) hge⟩
    · rw [if_neg d1] at h
      rw [decide_eq_false d1] at C2
      injection h with h
      injection h with e1 h
      injection h with e2 e3
      subst e1
      subst e2
      subst e3
      go_enter Tryz.func7, Tryz.ntmps7
      go_wp2_with (first | (go_at_call 20; refine (C1 _ hB2).mono ?_; rintro e w3 ⟨v3, rfl, hv3, hb3⟩; have q2 := blk_below hn2 hb3; have BM := Aside0.mk (blk_below hm2 hb3); have HB := Aside0.mk (below_then hB2 hB2.size hb3); have z0 := blk_frozen q2 0; have z1 := blk_frozen q2 1; have y0 : w3.cell? ⟨w.heap.size + 1, 0, none⟩ = some (.int .i64 0) := (blk_cell q2 0).trans rfl; have y1 : w3.cell? ⟨w.heap.size + 1, 1, none⟩ = some (.slice none 0 0) := (blk_cell q2 1).trans rfl; have x1 : w3.cell? ⟨w.heap.size, 1, none⟩ = some (.slice A0_1 l0_1.length c0_1) := (blk_cell BM.out 1).trans rfl; have x0 : w3.cell? ⟨w.heap.size, 0, none⟩ = some (.slice A0_0 l0_0.length c0_0) := (blk_cell BM.out 0).trans rfl) | (go_at_call 21; refine (C2 _).mono ?_; rintro e w4 ⟨rfl, ⟨nd, rfl⟩⟩))
      refine bodyPost_ret (results_ct rfl _ _ (w.heap.size + 1) 31 #[.int .i64 0, .slice none 0 0] (0, 0) _ rfl (by (with_reducible repeat (first | refine blk_drewN ?_ _ | refine blk_drew ?_ | refine blk_alloc ?_ _)); refine blk_put (cs := #[.int .i64 0, .slice none 0 0]) ?_ 1 _ rfl; (with_reducible repeat (first | refine blk_drewN ?_ _ | refine blk_drew ?_ | refine blk_alloc ?_ _)); refine blk_put (cs := #[.int .i64 0, .slice none 0 0]) ?_ 0 _ rfl; (with_reducible repeat (first | refine blk_drewN ?_ _ | refine blk_drew ?_ | refine blk_alloc ?_ _)); exact q2) Tryz.underlying31 rfl (by kernel_rfl)) rfl ?_
      exact ⟨_, rfl, Kd.R_nil _ _ _ _ _, below_set (below_set (pw_below_drewN HB.out _) hge) hge⟩
end Go.Proofs.YtobboonnfocalaaGreatDoor.PG1
