/- The program's new warp: idle, eight values and eight answers, each -1. Conditions: none. -/
import Derived.Test.YtobboonnfocalaaPB1x3
import Derived.Test.YtobboonnfocalaaWld
import Derived.Shelf.RegionOpenPlain
import Derived.Deep.RegionLaw
import Derived.Lib.Walk
set_option linter.unusedVariables false
set_option linter.unusedSimpArgs false
namespace Go.Proofs.Ytobboonnfocalaa.PB1
open Go.RowKit Go.Lib Go.Proofs.YtobboonnfocalaaW.PrintWords Go.Proofs.YtobboonnfocalaaW.PrintLast Go.Proofs.YtobboonnfocalaaW.PrintMore Go.Proofs.Ytobboonnfocalaa.Sl

/-- Eight cells, the first n of them -1. -/
def wa (n : Nat) : Array Value := (List.replicate n (Value.int .i64 (-1)) ++ List.replicate (8 - n) (Value.int .i64 0)).toArray
theorem made8 : madeCells #[Value.int .i64 0] 8 = wa 0 := by
  apply Array.ext
  · simp [madeCells, wa]
  · intro i h1 h2
    have e : (wa 0) = (List.replicate 8 (Value.int .i64 0)).toArray := rfl
    simp only [e, List.getElem_toArray, List.getElem_replicate]
    simp [madeCells, Nat.mod_one]
theorem wa_size {n : Nat} (h : n ≤ 8) : (wa n).size = 8 := by simp [wa]; omega
set_option maxHeartbeats 4000000 in
set_option maxRecDepth 100000 in
theorem Repeat8 (w : World) (vb : Nat) (T : TypeId) (hv : w.heap[vb]? = some (.cells #[.int .i64 (-1)] T (0, 0))) (hM : bits_Mul.f 1 8 = some (0, 8)) :
    Calls Try.prog 46 #[.slice (some ⟨vb, 0, none⟩) 1 1, .int .i64 8] w fun e w' => ∃ v, e = .returned v ∧ Kd.R (Kd.int .i64) 3 w' w.heap.size (fun _ => True) v (List.replicate 8 (-1)) ∧ Below w.heap.size w w' := by
  have C1 : ∀ W, Calls Try.prog 56 #[.int .u64 1, .int .u64 8] W fun e w' => e = .returned (.tuple #[.int .u64 0, .int .u64 8]) ∧ Below W.heap.size W w' := fun W => (bits_Mul.calls 1 8 0 8 W hM).mono (by rintro e w' ⟨rfl, ⟨nd, rfl⟩⟩; exact ⟨rfl, pw_below_drewN (Below.refl _ _) _⟩)
  obtain ⟨i0, hi0, hz0, hz1, hz2⟩ := info_parts info3
  have hs1 : (Try.prog.info? 3).map (·.size) = some 1 := by rw [hi0]; simp [hz1]
  have hmk : ∀ W : World, (Instr.makeSlice 52 (.int .i64 8) (.int .i64 8)).run Try.prog W = .ok (.slice (some ⟨W.heap.size, 0, none⟩) 8 8) (W.alloc (.cells (wa 0) 3)) := by
    intro W
    have h := run_makeSlice (P := Try.prog) (w := W) 52 3 i0 _ Try.underlying52 hi0 hz0 .i64 .i64 8 8 (by decide) (by decide) (by rw [hz1]; decide) (by rw [hz2]; decide) (by decide)
    rw [hz1, show madeCells (Value.int IntKind.i64 0).cells (Int.toNat 8 * 1) = wa 0 from made8] at h
    exact h
  have mixed : Try.prog.follows .mixedOrders = true := by kernel_rfl
  have hvl : vb < w.heap.size := blk_lt hv
  have HV := Aside0.mk hv
  clear hv hM
  have hcp0 : ∀ w1 : World, Below w.heap.size w w1 → ∀ ty, (Builtin.copy_ #[52, 52] ty #[.slice (some ⟨w1.heap.size, 0, none⟩) 8 8, .slice (some ⟨vb, 0, none⟩) 1 1]).run Try.prog (w1.alloc (.cells (wa 0) 3)) = .ok (.int .i64 1) ((w1.alloc (.cells (wa 0) 3)).setCells w1.heap.size 0 [.int .i64 (-1)]) := by
    intro w1 hb1 ty
    have hb2 : Below w.heap.size w (w1.alloc (.cells (wa 0) 3)) := hb1.alloc hb1.size _
    have hh0 : (w1.alloc (.cells (wa 0) 3)).heap[w1.heap.size]? = some (.cells (wa 0) 3 (0, 0)) := blk_new _ _
    have hv1 := blk_below HV.out hb2
    exact run_copy_size _ _ _ ty 3 1 w1.heap.size 0 8 8 ⟨vb, 0, none⟩ 1 1 [.int .i64 (-1)] Try.underlying52 hs1 (by decide)
      (fun j v hj => by rw [Addr.add_lit, cell_of_blk hv1, ← hj, ← List.getElem?_toArray]; congr 1; omega)
      (fun j hj => by rw [cell_of_blk hh0, Array.getElem?_eq_getElem (by rw [wa_size (by omega)]; simp at hj; omega)]; rfl) (fun j _ => blk_frozen hh0 _) (by intro u hu; simp at hu; subst hu; rfl)
  go_enter Try.func46, Try.ntmps46
  go_wp2_with (first | (go_at_call 56; refine (C1 _).mono ?_; rintro e w1 ⟨rfl, hb1⟩) | (at_builtin; refine copy_at _ rfl _ _ 52 52 rfl _ _ rfl rfl (hcp0 _ hb1 _) ?_) | (simp only [hmk]))
  have hb2 : Below w.heap.size w (w1.alloc (.cells (wa 0) 3)) := hb1.alloc hb1.size _
  have hh0 : (w1.alloc (.cells (wa 0) 3)).heap[w1.heap.size]? = some (.cells (wa 0) 3 (0, 0)) := blk_new _ _
  have hh1 : ((w1.alloc (.cells (wa 0) 3)).setCells w1.heap.size 0 [.int .i64 (-1)]).heap[w1.heap.size]? = some (.cells (wa 1) 3 (0, 0)) := heap_setCells [.int .i64 (-1)] 0 _ _ hh0
  have hb3 : Below w.heap.size w ((w1.alloc (.cells (wa 0) 3)).setCells w1.heap.size 0 [.int .i64 (-1)]) := below_setCells' hb1.size _ _ _ hb2
  have hg := hb1.size
  generalize (w1.alloc (.cells (wa 0) 3)).setCells w1.heap.size 0 [.int .i64 (-1)] = w3 at hh1 hb3 ⊢
  clear hcp0 hh0 hb2
  generalize w1.heap.size = g at hh1 hg ⊢
  clear hb1
  go_loopg [8] 4 (fun gg s8 wr => ∃ n : Nat, (n = 1 ∧ 3 ≤ gg ∨ n = 2 ∧ 2 ≤ gg ∨ n = 4 ∧ 1 ≤ gg ∨ n = 8) ∧ s8 = .int .i64 n ∧ Aside0 (wr.heap[g]? = some (.cells (wa n) 3 (0, 0))) ∧ Aside0 (Below w.heap.size w wr))
  case atStart => exact ⟨1, by omega, rfl, ⟨hh1⟩, ⟨hb3⟩⟩
  case round =>
    clear hh1 hb3
    obtain ⟨n, hn, rfl, HH, HB⟩ := hrel
    have hcp : ∀ (n : Nat), n ≤ 4 → 1 ≤ n → wr.heap[g]? = some (.cells (wa n) 3 (0, 0)) → (Builtin.copy_ #[52, 52] 3 #[.slice (some ⟨g, n, none⟩) (8 - n) (8 - n), .slice (some ⟨g, 0, none⟩) n 8]).run Try.prog wr.drew = .ok (.int .i64 n) (wr.drew.setCells g n (List.replicate n (.int .i64 (-1)))) := by
      intro n h4 h1 hh
      have := run_copy_size wr.drew 52 52 3 3 1 g n (8 - n) (8 - n) ⟨g, 0, none⟩ n 8 (List.replicate n (.int .i64 (-1))) Try.underlying52 hs1 (by rw [List.length_replicate]; simp only [Nat.min_def]; split <;> omega)
        (fun j v hj => by
          have hlt := (List.getElem?_eq_some_iff.1 hj).1
          rw [Addr.add_lit]
          show wr.cell? _ = _
          rw [cell_of_blk hh, ← hj, wa, List.getElem?_toArray, Nat.zero_add, List.getElem?_append_left hlt])
        (fun j hj => by
          rw [List.length_replicate] at hj
          show (wr.cell? _).isSome = true
          rw [cell_of_blk hh, Array.getElem?_eq_getElem (by rw [wa_size (by omega)]; omega)]
          rfl) (fun j _ => blk_frozen (w := wr.drew) hh _) (by intro u hu; rw [List.eq_of_mem_replicate hu]; rfl)
      rw [show Nat.min n (8 - n) = n by simp only [Nat.min_def]; split <;> omega] at this
      exact this
    rcases hn with ⟨rfl, hgg⟩ | ⟨rfl, hgg⟩ | ⟨rfl, hgg⟩ | rfl
    · have hc := hcp 1 (by decide) (by decide) HH.out
      have hnew : (wr.drew.setCells g 1 (List.replicate 1 (.int .i64 (-1)))).heap[g]? = some (.cells (wa 2) 3 (0, 0)) := heap_setCells _ _ _ _ (show wr.drew.heap[g]? = _ from HH.out)
      have hbn : Below w.heap.size w (wr.drew.setCells g 1 (List.replicate 1 (.int .i64 (-1)))) := below_setCells' hg _ _ _ (below_drew HB.out)
      clear hcp
      go_wp2
      go_region_law_o (refine copy_step rfl _ _ 52 52 rfl (.slice (some ⟨g, 1, none⟩) 7 7) (.slice (some ⟨g, 0, none⟩) 1 8) (by simp [Act.eval, Act.put]) (by simp [Act.eval, Act.put]) hc ?_)
      go_wp2
      go_roundg 2
      case measure => omega
      case rel => exact ⟨2, by omega, by go_num, ⟨hnew⟩, ⟨hbn⟩⟩
    · have hc := hcp 2 (by decide) (by decide) HH.out
      have hnew : (wr.drew.setCells g 2 (List.replicate 2 (.int .i64 (-1)))).heap[g]? = some (.cells (wa 4) 3 (0, 0)) := heap_setCells _ _ _ _ (show wr.drew.heap[g]? = _ from HH.out)
      have hbn : Below w.heap.size w (wr.drew.setCells g 2 (List.replicate 2 (.int .i64 (-1)))) := below_setCells' hg _ _ _ (below_drew HB.out)
      clear hcp
      go_wp2
      go_region_law_o (refine copy_step rfl _ _ 52 52 rfl (.slice (some ⟨g, 2, none⟩) 6 6) (.slice (some ⟨g, 0, none⟩) 2 8) (by simp [Act.eval, Act.put]) (by simp [Act.eval, Act.put]) hc ?_)
      go_wp2
      go_roundg 1
      case measure => omega
      case rel => exact ⟨4, by omega, by go_num, ⟨hnew⟩, ⟨hbn⟩⟩
    · have hc := hcp 4 (by decide) (by decide) HH.out
      have hnew : (wr.drew.setCells g 4 (List.replicate 4 (.int .i64 (-1)))).heap[g]? = some (.cells (wa 8) 3 (0, 0)) := heap_setCells _ _ _ _ (show wr.drew.heap[g]? = _ from HH.out)
      have hbn : Below w.heap.size w (wr.drew.setCells g 4 (List.replicate 4 (.int .i64 (-1)))) := below_setCells' hg _ _ _ (below_drew HB.out)
      clear hcp
      go_wp2
      go_region_law_o (refine copy_step rfl _ _ 52 52 rfl (.slice (some ⟨g, 4, none⟩) 4 4) (.slice (some ⟨g, 0, none⟩) 4 8) (by simp [Act.eval, Act.put]) (by simp [Act.eval, Act.put]) hc ?_)
      go_wp2
      go_roundg 0
      case measure => omega
      case rel => exact ⟨8, by omega, by go_num, ⟨hnew⟩, ⟨hbn⟩⟩
    · go_wp2
      go_ret
      exact ⟨_, rfl, ⟨fun _ _ => trivial, _, ⟨rfl, .inr ⟨g, 8, wa 8, rfl, hg, HH.out, by decide, by decide, rfl, rfl⟩⟩, by (repeat (refine Reps.one rfl ?_)); exact Reps.none _ _⟩, HB.out⟩


/-! ### impl_warpNew: function 24 -/
def impl_warpNew.f : Option (Int × List Int × List Int × Int × Int × Int × Int × Int) := some (0, List.replicate 8 (-1), List.replicate 8 (-1), 0, 0, 0, 0, 0)
theorem mul8 : bits_Mul.f 1 8 = some (0, 8) := by
  unfold bits_Mul.f bits_Mul64.f
  decide +kernel
set_option maxHeartbeats 1000000 in
set_option maxRecDepth 100000 in
theorem warpNew_ (L : List Int) (w : World) (C1 : ∀ W vb T, W.heap[vb]? = some (.cells #[.int .i64 (-1)] T (0, 0)) → Calls Try.prog 46 #[.slice (some ⟨vb, 0, none⟩) 1 1, .int .i64 8] W fun e w' => ∃ v, e = .returned v ∧ Kd.R (Kd.int .i64) 3 w' W.heap.size (fun _ => True) v L ∧ Below W.heap.size W w') :
    Calls Try.prog 24 #[] w fun e w' => ∃ v1_ v2_ : Value, e = .returned (.agg #[.int .i64 0, v1_, v2_, .int .u32 0, .int .i64 0, .int .i64 0, .int .i64 0, .int .u32 0]) ∧ Kd.R (Kd.int .i64) 3 w' w.heap.size (fun k_ => some k_ ≠ (v2_ : Value).ownBlock) v1_ L ∧ Kd.R (Kd.int .i64) 3 w' w.heap.size (fun k_ => some k_ ≠ (v1_ : Value).ownBlock) v2_ L ∧ Below w.heap.size w w' := by
  have hu := Try.underlying55
  have hbx : (w.alloc (.cells #[(.int .i64 0), (.slice none 0 0), (.slice none 0 0), (.int .u32 0), (.int .i64 0), (.int .i64 0), (.int .i64 0), (.int .u32 0)] 55)).heap[w.heap.size]? = some (.cells #[(.int .i64 0), (.slice none 0 0), (.slice none 0 0), (.int .u32 0), (.int .i64 0), (.int .i64 0), (.int .i64 0), (.int .u32 0)] 55 (0, 0)) := blk_new _ _
  have hB0 : Below w.heap.size w (w.alloc (.cells #[(.int .i64 0), (.slice none 0 0), (.slice none 0 0), (.int .u32 0), (.int .i64 0), (.int .i64 0), (.int .i64 0), (.int .u32 0)] 55)) := (Below.refl _ _).alloc (Nat.le_refl _) _
  have hA : ((w.alloc (.cells #[(.int .i64 0), (.slice none 0 0), (.slice none 0 0), (.int .u32 0), (.int .i64 0), (.int .i64 0), (.int .i64 0), (.int .u32 0)] 55)).alloc (.cells #[.int .i64 (-1)] 3)).heap[w.heap.size + 1]? = some (.cells #[.int .i64 (-1)] 3 (0, 0)) := by
    have := blk_new (w.alloc (.cells #[(.int .i64 0), (.slice none 0 0), (.slice none 0 0), (.int .u32 0), (.int .i64 0), (.int .i64 0), (.int .i64 0), (.int .u32 0)] 55)) (.cells #[.int .i64 (-1)] 3)
    rw [World.size_alloc] at this
    exact this
  have hB1 := hB0.alloc hB0.size (.cells #[.int .i64 (-1)] 3)
  have hbx1 := blk_alloc hbx (.cells #[.int .i64 (-1)] 3)
  have C1a := C1 _ _ _ hA
  have C1b := fun w1 : World => C1 (w1.alloc (.cells #[.int .i64 (-1)] 3)) w1.heap.size 3 (blk_new _ _)
  clear C1 hA hbx hB0
  go_enter Try.func24, Try.ntmps24
  go_wp2_with (first | (go_at_call 46; refine C1a.mono ?_; rintro e w1 ⟨v1, rfl, hv1, hb1⟩; obtain ⟨A1, c1, rfl⟩ := Kd.R_slice hv1; have hB2 := below_step hB1 hb1; have q1 := blk_alloc (blk_below hbx1 hb1) (.cells #[.int .i64 (-1)] 3); have hB2a := hB2.alloc hB2.size (.cells #[.int .i64 (-1)] 3); clear C1a) | (go_at_call 46; refine (C1b w1).mono ?_; rintro e w2 ⟨v2, rfl, hv2, hb2⟩; obtain ⟨A2, c2, rfl⟩ := Kd.R_slice hv2; have hB3 := below_step hB2a hb2; have q2 := blk_below q1 hb2; clear C1b hbx1; have z0 := blk_frozen q2 0; have y0 := cell_of_blk q2 0; have z1 := blk_frozen q2 1; have y1 := cell_of_blk q2 1; have z2 := blk_frozen q2 2; have y2 := cell_of_blk q2 2; have z3 := blk_frozen q2 3; have y3 := cell_of_blk q2 3; have z4 := blk_frozen q2 4; have y4 := cell_of_blk q2 4; have z5 := blk_frozen q2 5; have y5 := cell_of_blk q2 5; have z6 := blk_frozen q2 6; have y6 := cell_of_blk q2 6; have z7 := blk_frozen q2 7; have y7 := cell_of_blk q2 7))
  refine bodyPost_ret (results_cell_row rfl _ _ w.heap.size 55 #[(.int .i64 0), (.slice A1 L.length c1), (.slice A2 L.length c2), (.int .u32 0), (.int .i64 0), (.int .i64 0), (.int .i64 0), (.int .u32 0)] (0, 0) _ rfl (by (with_reducible repeat (first | refine blk_drewN ?_ _ | refine blk_drew ?_ | refine blk_alloc ?_ _)); refine blk_put (cs := #[(.int .i64 0), (.slice A1 L.length c1), (.slice A2 L.length c2), (.int .u32 0), (.int .i64 0), (.int .i64 0), (.int .i64 0), (.int .u32 0)]) ?_ 7 _ rfl; (with_reducible repeat (first | refine blk_drewN ?_ _ | refine blk_drew ?_ | refine blk_alloc ?_ _)); refine blk_put (cs := #[(.int .i64 0), (.slice A1 L.length c1), (.slice A2 L.length c2), (.int .u32 0), (.int .i64 0), (.int .i64 0), (.int .i64 0), (.int .u32 0)]) ?_ 6 _ rfl; (with_reducible repeat (first | refine blk_drewN ?_ _ | refine blk_drew ?_ | refine blk_alloc ?_ _)); refine blk_put (cs := #[(.int .i64 0), (.slice A1 L.length c1), (.slice A2 L.length c2), (.int .u32 0), (.int .i64 0), (.int .i64 0), (.int .i64 0), (.int .u32 0)]) ?_ 5 _ rfl; (with_reducible repeat (first | refine blk_drewN ?_ _ | refine blk_drew ?_ | refine blk_alloc ?_ _)); refine blk_put (cs := #[(.int .i64 0), (.slice A1 L.length c1), (.slice A2 L.length c2), (.int .u32 0), (.int .i64 0), (.int .i64 0), (.int .i64 0), (.int .u32 0)]) ?_ 4 _ rfl; (with_reducible repeat (first | refine blk_drewN ?_ _ | refine blk_drew ?_ | refine blk_alloc ?_ _)); refine blk_put (cs := #[(.int .i64 0), (.slice A1 L.length c1), (.slice A2 L.length c2), (.int .u32 0), (.int .i64 0), (.int .i64 0), (.int .i64 0), (.int .u32 0)]) ?_ 3 _ rfl; (with_reducible repeat (first | refine blk_drewN ?_ _ | refine blk_drew ?_ | refine blk_alloc ?_ _)); refine blk_put (cs := #[(.int .i64 0), (.slice A1 L.length c1), (.slice none 0 0), (.int .u32 0), (.int .i64 0), (.int .i64 0), (.int .i64 0), (.int .u32 0)]) ?_ 2 _ rfl; (with_reducible repeat (first | refine blk_drewN ?_ _ | refine blk_drew ?_ | refine blk_alloc ?_ _)); refine blk_put (cs := #[(.int .i64 0), (.slice none 0 0), (.slice none 0 0), (.int .u32 0), (.int .i64 0), (.int .i64 0), (.int .i64 0), (.int .u32 0)]) ?_ 1 _ rfl; (with_reducible repeat (first | refine blk_drewN ?_ _ | refine blk_drew ?_ | refine blk_alloc ?_ _)); refine blk_put (cs := #[(.int .i64 0), (.slice none 0 0), (.slice none 0 0), (.int .u32 0), (.int .i64 0), (.int .i64 0), (.int .i64 0), (.int .u32 0)]) ?_ 0 _ rfl; (with_reducible repeat (first | refine blk_drewN ?_ _ | refine blk_drew ?_ | refine blk_alloc ?_ _)); exact q2) Try.underlying55 rfl (by kernel_rfl)) rfl ?_
  have a1 : Kd.R (Kd.int .i64) 3 w2 ((w.alloc (.cells #[(.int .i64 0), (.slice none 0 0), (.slice none 0 0), (.int .u32 0), (.int .i64 0), (.int .i64 0), (.int .i64 0), (.int .u32 0)] 55)).alloc (.cells #[.int .i64 (-1)] 3)).heap.size (fun k => w.heap.size < k ∧ k < w1.heap.size + 1) (.slice A1 L.length c1) L := Kd.R_below (Kd.R_alloc (Kd.R_mono (Kd.R_bound hv1) (fun k hk => ⟨by have := hk.2.1; simp [World.size_alloc] at this; omega, by have := hk.2.2.1; omega⟩)) _) hb2
  have a2 : Kd.R (Kd.int .i64) 3 w2 (w1.alloc (.cells #[.int .i64 (-1)] 3)).heap.size (fun k => w1.heap.size + 1 ≤ k) (.slice A2 L.length c2) L := Kd.R_mono (Kd.R_bound hv2) (fun k hk => by have := hk.2.1; simp [World.size_alloc] at this; omega)
  have s1 := hb1.size
  simp only [World.size_alloc] at s1
  have o1 := Kd.R_lt hv1
  have o2 := Kd.R_base hv2
  simp only [World.size_alloc] at o2
  refine ⟨(.slice A1 L.length c1), (.slice A2 L.length c2), rfl, ?_, ?_, below_set (below_set (below_set (below_set (below_set (below_set (below_set (below_set (hB3) (Nat.le_refl _)) (Nat.le_refl _)) (Nat.le_refl _)) (Nat.le_refl _)) (Nat.le_refl _)) (Nat.le_refl _)) (Nat.le_refl _)) (Nat.le_refl _)⟩
  · refine Kd.R_lower (base := ((w.alloc (.cells #[(.int .i64 0), (.slice none 0 0), (.slice none 0 0), (.int .u32 0), (.int .i64 0), (.int .i64 0), (.int .i64 0), (.int .u32 0)] 55)).alloc (.cells #[.int .i64 (-1)] 3)).heap.size) ?_ hB1.size
    refine Kd.R_mono (ok := fun k => w.heap.size < k ∧ k < w1.heap.size + 1) ?_ (fun k hk e => by have := o2 k e.symm; omega)
    (repeat' (refine Kd.R_far ?_ (fun k hk => by show k ≠ w.heap.size; omega) _))
    exact a1
  · refine Kd.R_lower (base := (w1.alloc (.cells #[.int .i64 (-1)] 3)).heap.size) ?_ (by simp only [World.size_alloc]; omega)
    refine Kd.R_mono (ok := fun k => w1.heap.size + 1 ≤ k) ?_ (fun k hk e => by have := o1 k e.symm; omega)
    (repeat' (refine Kd.R_far ?_ (fun k hk => by show k ≠ w.heap.size; omega) _))
    exact a2
theorem impl_warpNew.calls (r1 : Int) (r2 : List Int) (r3 : List Int) (r4 : Int) (r5 : Int) (r6 : Int) (r7 : Int) (r8 : Int) (w : World) (h : impl_warpNew.f = some (r1, r2, r3, r4, r5, r6, r7, r8)) :
    Calls Try.prog 24 #[] w fun e w' => ∃ v1_ v2_ : Value, e = .returned (.agg #[.int .i64 r1, v1_, v2_, .int .u32 r4, .int .i64 r5, .int .i64 r6, .int .i64 r7, .int .u32 r8]) ∧ Kd.R (Kd.int .i64) 3 w' w.heap.size (fun k_ => some k_ ≠ (v2_ : Value).ownBlock) v1_ r2 ∧ Kd.R (Kd.int .i64) 3 w' w.heap.size (fun k_ => some k_ ≠ (v1_ : Value).ownBlock) v2_ r3 ∧ Below w.heap.size w w' := by
  have H := warpNew_ (List.replicate 8 (-1)) w (fun W vb T hv => Repeat8 W vb T hv mul8)
  unfold impl_warpNew.f at h
  simp only [Option.some.injEq, Prod.mk.injEq] at h
  obtain ⟨rfl, rfl, rfl, rfl, rfl, rfl, rfl, rfl⟩ := h
  exact H
end Go.Proofs.Ytobboonnfocalaa.PB1
