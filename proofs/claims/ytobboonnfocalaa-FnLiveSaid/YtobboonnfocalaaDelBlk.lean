/- slices.Delete of one element, at a row of blocks of the call's own: the row without it. Conditions: none. -/
import Derived.Test.YtobboonnfocalaaBlkRow
import Derived.Shelf.RegionOpenPlain
import Derived.Deep.RegionLaw
import Derived.Lib.Walk
import Derived.Lib.SliceRun
set_option linter.unusedVariables false
set_option linter.unusedSimpArgs false
namespace Go.Proofs.Ytobboonnfocalaa.Sl
open Go.RowKit Go.Lib Go.Proofs.YtobboonnfocalaaW.PrintWords Go.Proofs.YtobboonnfocalaaW.PrintLast Go.Proofs.YtobboonnfocalaaW.PrintMore Go.Proofs.Ytobboonnfocalaa.PB1

set_option maxHeartbeats 4000000 in
set_option maxRecDepth 100000 in
theorem Delete_blk (w : World) (base : Nat) (v : Value) (a b : List S37) (x : S37) (hR : Kd.R k37 37 w base (fun _ => True) v (a ++ x :: b)) (hl : (a ++ x :: b).length ≤ 2000000) :
    Calls Try.prog 44 #[v, .int .i64 a.length, .int .i64 (a.length + 1 : Nat)] w fun e w' => ∃ v', e = .returned v' ∧ Kd.R k37 37 w' base (fun _ => True) v' (a ++ b) ∧ Below base w w' := by
  have HO := R_flat hR
  clear hR
  rcases HO.2 with ⟨rfl, h0⟩ | ⟨g, cap, cur, rfl, hg, hh, hnc, hcm, hsz, htk⟩
  · simp at h0
  have hlen : (a ++ x :: b).length = a.length + (b.length + 1) := by simp
  have hfl : flat (a ++ x :: b) = flat a ++ (Value.int .i64 x.f0 :: Value.int .i64 x.f1 :: flat b) := by rw [flat_append, flat_cons]
  rw [hlen] at hnc hl htk ⊢
  rw [hfl] at htk
  obtain ⟨rest, hcur⟩ : ∃ rest, cur.toList = flat a ++ (Value.int .i64 x.f0 :: Value.int .i64 x.f1 :: (flat b ++ rest)) := by
    refine ⟨cur.toList.drop ((a.length + (b.length + 1)) * 2), ?_⟩
    have := List.take_append_drop ((a.length + (b.length + 1)) * 2) cur.toList
    rw [htk] at this
    exact this.symm.trans (by simp)
  clear htk hfl hlen
  have la := flat_length a
  have lb := flat_length b
  have hmx : cap ≤ 9223372036854775807 := by simpa [maxLen] using hcm
  clear hcm
  -- the cells of the row
  have hcell : ∀ j, w.cell? ⟨g, j, none⟩ = (flat a ++ (Value.int .i64 x.f0 :: Value.int .i64 x.f1 :: (flat b ++ rest)))[j]? := fun j => by rw [cell_of_blk hh, ← hcur, Array.getElem?_toList]
  have hfz : ∀ j, w.frozen? ⟨g, j, none⟩ = false := fun j => blk_frozen hh j
  have hsome : ∀ j, j < cap * 2 → (w.cell? ⟨g, j, none⟩).isSome = true := fun j hj => by rw [cell_of_blk hh, Array.getElem?_eq_getElem (by omega)]; rfl
  obtain ⟨A, hA, hsrc⟩ : ∃ A : Addr, (if cap = a.length + 1 then (some ⟨g, 0, none⟩ : Option Addr) else some ⟨g, (a.length + 1) * 2, none⟩) = some A ∧ Hid (∀ t u, (flat b)[t]? = some u → w.drew.cell? (A.add t) = some u) := by
    by_cases h : cap = a.length + 1
    · refine ⟨⟨g, 0, none⟩, by simp [h], fun t u hu => ?_⟩
      have h0 : (flat b).length = 0 := by rw [lb]; omega
      rw [List.length_eq_zero_iff.1 h0] at hu
      simp at hu
    · refine ⟨⟨g, (a.length + 1) * 2, none⟩, by simp [h], fun t u hu => ?_⟩
      rw [Addr.add_lit]
      show w.cell? _ = _
      rw [hcell, List.getElem?_append_right (by omega), la, show (a.length + 1) * 2 + t - a.length * 2 = t + 1 + 1 by omega, List.getElem?_cons_succ, List.getElem?_cons_succ]
      rw [List.getElem?_append_left (List.getElem?_eq_some_iff.1 hu).1]
      exact hu
  have mixed : Try.prog.follows .mixedOrders = true := by kernel_rfl
  have hb1 : a.length ≤ cap := by omega
  have hb2 : a.length + 1 ≤ a.length + (b.length + 1) := by omega
  have hb3 : ¬ cap = a.length + b.length := by omega
  have hb4 : a.length + b.length ≤ a.length + (b.length + 1) := by omega
  have hb5 : a.length + (b.length + 1) - (a.length + b.length) = 1 := by omega
  have hb6 : (0 : Int) ≤ (a.length : Int) + 1 := by omega
  have hb7 : (1 : Int) ≤ (b.length : Int) + 1 := by omega
  have hb8 : a.length + (b.length + 1) - (a.length + 1) = b.length := by omega
  obtain ⟨i0, hi0, hz0, hz1, hz2⟩ := info_parts info37
  have s1 : Hid ((flat b).length = b.length * 2) := lb
  have s2 : Hid (∀ u ∈ flat b, u.oneCell' = true) := flat_one b
  have s3 : Hid (∀ t, t < (flat b).length → (w.drew.cell? ⟨g, 0 + a.length * 2 + t, none⟩).isSome = true ∧ w.drew.frozen? ⟨g, 0 + a.length * 2 + t, none⟩ = false) := by
    intro t ht
    rw [lb] at ht
    exact ⟨by show (w.cell? _).isSome = true; exact hsome _ (by omega), hfz _⟩
  obtain ⟨W1, hW1⟩ : ∃ W1, W1 = w.drew.setCells g (0 + a.length * 2) (flat b) := ⟨_, rfl⟩
  have hh1 : W1.heap[g]? = some (.cells (wr cur (0 + a.length * 2) (flat b)) 37 (0, 0)) := by rw [hW1]; exact heap_setCells _ _ _ _ hh
  have hsz1 : (wr cur (0 + a.length * 2) (flat b)).size = cap * 2 := by rw [wr_size, hsz]
  have hcl : ∀ ty c, (Builtin.clear_ #[35] ty #[.slice (some ⟨g, (a.length + b.length) * 2, none⟩) 1 c]).run Try.prog W1 = .ok (.tuple #[]) (W1.setCells g ((a.length + b.length) * 2) [.int .i64 0, .int .i64 0]) :=
    fun ty c => run_clear_one W1 35 37 ty (.agg #[.int .i64 0, .int .i64 0]) Try.underlying35 Try.zeroValue37 [.int .i64 0, .int .i64 0] (zero_cells _ 1) (by intro u hu; simp at hu; subst hu; rfl) g _ c
      (fun j hj => by rw [cell_of_blk hh1, Array.getElem?_eq_getElem (by simp at hj; omega)]; rfl) (fun j _ => blk_frozen hh1 _)
  have X := Aside0.mk hh1
  have Y := Aside0.mk hcur
  have Z := Aside0.mk hh
  have hW : Hid (W1 = w.drew.setCells g (0 + a.length * 2) (flat b)) := hW1
  clear hW1 hh1 hh hcur hcell hfz hsome hsz1
  go_enter Try.func44, Try.ntmps44
  go_wp2_with fail
  go_region_law_o (refine step_append_room rfl (.tmp 22) (.tmp 25) 35 rfl 37 i0 2 Try.underlying35 hi0 hz1 g 0 a.length cap (by simp [Act.eval, Act.put]) A b.length (cap - (a.length + 1)) (flat b) (by simp [Act.eval, Act.put]) s1.out hsrc.out s2.out (by omega) s3.out ?_; rw [← hW.out])
  go_wp2
  go_ret
  refine ⟨_, rfl, flat_R ⟨flat_length _, .inr ⟨g, cap, _, by rw [List.length_append]; rfl, hg, heap_setCells _ _ _ _ X.out, by rw [List.length_append]; omega, by simpa [maxLen] using hmx, by rw [wr_size, wr_size, hsz], ?_⟩⟩, below_setCells' hg _ _ _ (by rw [hW.out]; exact below_setCells' hg _ _ _ (below_drew (Below.refl _ _)))⟩
  have hl2 : (flat a ++ flat b).length = (a.length + b.length) * 2 := by rw [List.length_append, la, lb]; omega
  have e1 : (wr cur (0 + a.length * 2) (flat b)).toList = flat a ++ flat b ++ cur.toList.drop (0 + a.length * 2 + (flat b).length) := by
    rw [wr_list _ _ _ (by rw [lb]; omega), Y.out, Nat.zero_add, ← la, List.take_left]
  rw [wr_list _ _ _ (by rw [wr_size, hsz]; simp; omega), e1, List.length_append, flat_append, ← hl2, List.take_left, List.append_assoc, List.take_left]
end Go.Proofs.Ytobboonnfocalaa.Sl
