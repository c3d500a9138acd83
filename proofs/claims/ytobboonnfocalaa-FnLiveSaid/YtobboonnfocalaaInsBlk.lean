/- slices.Insert of one element, at a row of blocks of the call's own: the row with it. Conditions: none (the element lies in a block of its own, which is not the row's). -/
import Derived.Test.YtobboonnfocalaaBlkRow
import Derived.Shelf.RegionOpenPlain
import Derived.Deep.RegionLaw
import Derived.Lib.Walk
import Derived.Lib.SliceRun
import Derived.Lib.Overlaps
import Derived.Lib.AppendZerosOnto
import Derived.Laws.Externs
import Derived.Laws.NewBlocks
import Derived.Lib.AppendStr
set_option linter.unusedVariables false
set_option linter.unusedSimpArgs false
namespace Go.Proofs.Ytobboonnfocalaa.Sl
open Go.RowKit Go.Lib Go.Proofs.YtobboonnfocalaaW.PrintWords Go.Proofs.YtobboonnfocalaaW.PrintLast Go.Proofs.YtobboonnfocalaaW.PrintMore Go.Proofs.Ytobboonnfocalaa.PB1

theorem C_one {w : World} {vb : Nat} {T : TypeId} {fz : Nat × Nat} {x : S37} (h : w.heap[vb]? = some (.cells #[.int .i64 x.f0, .int .i64 x.f1] T fz)) : Kd.C k37 w (some ⟨vb, 0, none⟩) 1 [x] := by
  refine ⟨rfl, by decide, fun _ => ⟨_, rfl, fun j p hj => ?_⟩⟩
  cases j with
  | succ j => simp at hj
  | zero =>
    simp at hj
    subst hj
    refine ⟨_, rfl, k37_mk w _, fun i u hu => ?_⟩
    rw [Addr.add_lit, cell_of_blk h, ← hu, ← List.getElem?_toArray]
    congr 1
    omega


set_option maxHeartbeats 4000000 in
set_option maxRecDepth 100000 in
theorem Insert_end (w : World) (base : Nat) (v : Value) (a : List S37) (x : S37) (vb : Nat) (T : TypeId) (hR : Kd.R k37 37 w base (fun _ => True) v a) (hl : a.length ≤ 2000000) (hb : base ≤ w.heap.size)
    (hv : w.heap[vb]? = some (.cells #[.int .i64 x.f0, .int .i64 x.f1] T (0, 0))) :
    Calls Try.prog 39 #[v, .int .i64 a.length, .slice (some ⟨vb, 0, none⟩) 1 1] w fun e w' => ∃ v', e = .returned v' ∧ Kd.R k37 37 w' base (fun _ => True) v' (a ++ [x]) ∧ Below base w w' := by
  have HV := Aside0.mk (C_one hv)
  have HB := Aside0.mk (Below.refl base w)
  clear hv
  have HO := R_flat hR
  have HR := Aside0.mk hR
  clear hR
  rcases HO.2 with ⟨rfl, h0⟩ | ⟨g, cap, cur, rfl, hg, hh, hnc, hcm, hsz, htk⟩
  · have : a = [] := List.eq_nil_of_length_eq_zero h0
    subst this
    clear HO
    go_enter Try.func39, Try.ntmps39
    go_wp2_with (first | ((with_reducible refine gate_dst (N := 25) rfl ?_); refine Kd.R_append_rows k37 (w0 := w) base rfl (.tmp 23) (.tmp 24) 35 37 (.agg #[(.int .i64 0), (.int .i64 0)]) 16 rfl Try.underlying35 info37 rfl (by decide) (by omega) (.slice none 0 0) [] [x] _ _ _ (fun _ => True) (fun _ => False) rfl rfl HR.out HV.out (fun _ _ h => h) (fun _ h => h.elim) (fun _ _ => trivial) HB.out hb (by simp) ?_; intro v2 w2 ho hb2 hg2 hat))
    go_ret
    exact ⟨_, rfl, ho, hb2⟩
  · clear HO hh hsz htk
    have hmx : cap ≤ 9223372036854775807 := by simpa [maxLen] using hcm
    clear hcm
    go_enter Try.func39, Try.ntmps39
    go_wp2_with (first | ((with_reducible refine gate_dst (N := 25) rfl ?_); refine Kd.R_append_rows k37 (w0 := w) base rfl (.tmp 23) (.tmp 24) 35 37 (.agg #[(.int .i64 0), (.int .i64 0)]) 16 rfl Try.underlying35 info37 rfl (by decide) (by omega) _ a [x] _ _ _ (fun _ => True) (fun _ => False) rfl rfl HR.out HV.out (fun _ _ h => h) (fun _ h => h.elim) (fun _ _ => trivial) HB.out hb (by omega) ?_; intro v2 w2 ho hb2 hg2 hat))
    all_goals (go_ret; exact ⟨_, rfl, ho, hb2⟩)

set_option maxHeartbeats 4000000 in
set_option maxRecDepth 100000 in
theorem Insert_shift (w : World) (base g cap n i vb : Nat) (cur : Array Value) (a b : List S37) (x : S37) (T : TypeId) (hg : base ≤ g) (hh : w.heap[g]? = some (.cells cur 37 (0, 0))) (hi : i = a.length) (hn : n = a.length + b.length) (hb0 : 0 < b.length) (hroom : n + 1 ≤ cap) (hmx : cap ≤ 9223372036854775807) (hsz : cur.size = cap * 2)
    (htk : cur.toList.take (n * 2) = flat a ++ flat b) (hv : w.heap[vb]? = some (.cells #[.int .i64 x.f0, .int .i64 x.f1] T (0, 0))) (hne : vb ≠ g) :
    Calls Try.prog 39 #[.slice (some ⟨g, 0, none⟩) n cap, .int .i64 i, .slice (some ⟨vb, 0, none⟩) 1 1] w fun e w' => ∃ v', e = .returned v' ∧ Kd.R k37 37 w' base (fun _ => True) v' (a ++ x :: b) ∧ Below base w w' := by
  have la := flat_length a
  have lb := flat_length b
  have u4 := run_underlying Try.underlying4
  have u32 := run_underlying Try.underlying35
  obtain ⟨rest, hcur⟩ : ∃ rest, cur.toList = flat a ++ (flat b ++ rest) := ⟨_, ((List.take_append_drop (n * 2) cur.toList).symm.trans (by rw [htk])).trans (List.append_assoc _ _ _)⟩
  have hcell : ∀ j, w.cell? ⟨g, j, none⟩ = (flat a ++ (flat b ++ rest))[j]? := fun j => by rw [cell_of_blk hh, ← hcur, Array.getElem?_toList]
  have hfz : ∀ j, w.frozen? ⟨g, j, none⟩ = false := fun j => blk_frozen hh j
  have hsome : ∀ j, j < cap * 2 → (w.cell? ⟨g, j, none⟩).isSome = true := fun j hj => by rw [cell_of_blk hh, Array.getElem?_eq_getElem (by omega)]; rfl
  have hbc : ∀ j v, (flat b)[j]? = some v → w.cell? ⟨g, i * 2 + j, none⟩ = some v := fun j v hj => by
    rw [hcell, List.getElem?_append_right (by omega), la, hi, Nat.add_sub_cancel_left, List.getElem?_append_left (List.getElem?_eq_some_iff.1 hj).1]
    exact hj
  have hvc : ∀ j v, [Value.int .i64 x.f0, Value.int .i64 x.f1][j]? = some v → w.cell? ⟨vb, j, none⟩ = some v := fun j v hj => by
    rw [cell_of_blk hv, ← hj, ← List.getElem?_toArray]
  obtain ⟨i0, hi0, hz0, hz1, hz2⟩ := info_parts info37
  have hs2 : (Try.prog.info? 37).map (·.size) = some 2 := by rw [hi0]; simp [hz1]
  have hz : ∀ w, (Go.sizeOf 37).run Try.prog w = .ok 2 w := fun w => by simp [Go.sizeOf, typeInfo, hi0, hz1]
  have hov : ∀ lb cb, (callFunc 54 #[.slice (some ⟨vb, 0, none⟩) 1 1, .slice (some ⟨g, (i + 1) * 2, none⟩) lb cb]).run Try.prog w = .ok (.value (.bool false)) w := fun lb cb => by
    rw [run_callFunc_extern Try.func54 (by kernel_rfl) (by kernel_rfl) (by kernel_rfl) (e := Extern.SlicesOverlaps.overlaps #[35, 35] #[4]) (by kernel_rfl),
      Lib.run_overlaps_apart w 35 4 37 Try.underlying35 2 hz ⟨vb, 0, none⟩ ⟨g, (i + 1) * 2, none⟩ 1 1 lb cb hne T 37 2 cur.size (by simp [World.shape?, hv]) (by simp [World.shape?, hh]) (by omega) (blk_frozen hv 0) (blk_frozen hv 2)]
    rfl
  have mixed : Try.prog.follows .mixedOrders = true := by kernel_rfl
  have hin : i ≤ n := by omega
  have hz2 : ¬ ((i : Int) = (n : Int)) := by omega
  have hw1 : IntKind.i64.wrap ((i : Int) + 1) = (i : Int) + 1 := by rw [IntKind.wrap_i64]; omega
  have hw2 : IntKind.i64.wrap ((n : Int) + 1) = (n : Int) + 1 := by rw [IntKind.wrap_i64]; omega
  have hb1 : (0 : Int) ≤ (i : Int) + 1 := by omega
  have hb2 : ¬ (cap = i + 1) := by omega
  have hb3 : (i : Int) ≤ (n : Int) + 1 := by omega
  have hb4 : ¬ (cap = i) := by omega
  have hcp1 : ∀ ty dc sc, (Builtin.copy_ #[35, 35] ty #[.slice (some ⟨g, (i + 1) * 2, none⟩) (n - i) dc, .slice (some ⟨g, i * 2, none⟩) (n + 1 - i) sc]).run Try.prog w.drew = .ok (goInt (Nat.min (n + 1 - i) (n - i))) (w.drew.setCells g ((i + 1) * 2) (flat b)) := fun ty dc sc =>
    run_copy_size w.drew _ _ ty 37 2 g ((i + 1) * 2) (n - i) dc ⟨g, i * 2, none⟩ (n + 1 - i) sc (flat b) Try.underlying35 hs2 (by rw [lb]; simp only [Nat.min_def]; split <;> omega)
      (fun j v hj => by rw [Addr.add_lit]; exact hbc j v hj) (fun j hj => hsome _ (by omega)) (fun j _ => hfz _) (flat_one b)
  obtain ⟨W1, hW1⟩ : ∃ W1, W1 = w.drew.setCells g ((i + 1) * 2) (flat b) := ⟨_, rfl⟩
  have hh1 : W1.heap[g]? = some (.cells (wr cur ((i + 1) * 2) (flat b)) 37 (0, 0)) := by rw [hW1]; exact heap_setCells _ _ _ _ hh
  have hsz1 : (wr cur ((i + 1) * 2) (flat b)).size = cap * 2 := by rw [wr_size, hsz]
  have hcp2 : ∀ (W : World), (∀ x, W.cell? x = W1.cell? x) → (∀ x, W.frozen? x = W1.frozen? x) → ∀ ty dc, (Builtin.copy_ #[35, 35] ty #[.slice (some ⟨g, i * 2, none⟩) (n + 1 - i) dc, .slice (some ⟨vb, 0, none⟩) 1 1]).run Try.prog W = .ok (goInt (Nat.min 1 (n + 1 - i))) (W.setCells g (i * 2) [.int .i64 x.f0, .int .i64 x.f1]) := fun W hWc hWf ty dc =>
    run_copy_size W _ _ ty 37 2 g (i * 2) (n + 1 - i) dc ⟨vb, 0, none⟩ 1 1 _ Try.underlying35 hs2 (by simp only [Nat.min_def]; split <;> simp <;> omega)
      (fun j v hj => by
        rw [Addr.add_lit, hWc, hW1, World.cell?_setCells_out g _ _ _ _ (fun h _ => absurd h hne), Nat.zero_add]
        exact hvc j v hj)
      (fun j hj => by simp at hj; rw [hWc, cell_of_blk hh1, Array.getElem?_eq_getElem (by omega)]; rfl) (fun j _ => by rw [hWf]; exact blk_frozen hh1 _) (by intro u hu; simp at hu; rcases hu with rfl | rfl <;> rfl)
  rw [← hW1] at hcp1
  have hh2 := heap_setCells [.int .i64 x.f0, .int .i64 x.f1] (i * 2) _ _ hh1
  have X := Aside0.mk hh2
  have Y := Aside0.mk hcur
  have HW := Aside0.mk hW1
  have HI := Aside0.mk hi
  have HN := Aside0.mk hn
  clear hi hn la lb hcur hh2 hh1 hh hW1 hsz1 hcell hfz hsome hbc hvc htk hv
  go_enter Try.func39, Try.ntmps39
  go_wp2_with (simp only [hov])
  go_region_law_o (refine copy_step rfl _ _ 35 35 rfl _ _ (by simp [Act.eval, Act.put]) (by simp [Act.eval, Act.put]) (hcp1 _ _ _) ?_)
  go_wp2_with (at_builtin; refine copy_at _ rfl _ _ 35 35 rfl _ _ rfl rfl (hcp2 _ (fun _ => rfl) (fun _ => rfl) _ _) ?_)
  go_ret
  have la := flat_length a
  have lb := flat_length b
  have hlen : (a ++ x :: b).length = n + 1 := by simp; have := HN.out; omega
  have hi := HI.out
  have hn := HN.out
  refine ⟨_, rfl, flat_R ⟨flat_length _, .inr ⟨g, cap, _, by rw [hlen]; rfl, hg, X.out, by rw [hlen]; exact hroom, by simpa [maxLen] using hmx, by rw [wr_size, wr_size, hsz], ?_⟩⟩, below_setCells' hg _ _ _ (by rw [HW.out]; exact below_setCells' hg _ _ _ (below_drew (Below.refl _ _)))⟩
  have hT : (cur.toList.take ((i + 1) * 2)).length = (i + 1) * 2 := by rw [List.length_take, Array.length_toList, hsz]; omega
  have e1 : (wr cur ((i + 1) * 2) (flat b)).toList = cur.toList.take ((i + 1) * 2) ++ (flat b ++ cur.toList.drop ((i + 1) * 2 + (flat b).length)) := by
    rw [wr_list _ _ _ (by rw [lb]; omega), List.append_assoc]
  have e2 : (cur.toList.take ((i + 1) * 2) ++ (flat b ++ cur.toList.drop ((i + 1) * 2 + (flat b).length))).take (i * 2) = flat a := by
    rw [List.take_append_of_le_length (by omega), List.take_take, Nat.min_eq_left (by omega), Y.out, hi, ← la, List.take_left]
  have e3 : (cur.toList.take ((i + 1) * 2) ++ (flat b ++ cur.toList.drop ((i + 1) * 2 + (flat b).length))).drop (i * 2 + [Value.int .i64 x.f0, Value.int .i64 x.f1].length) = flat b ++ cur.toList.drop ((i + 1) * 2 + (flat b).length) := by
    rw [show i * 2 + [Value.int .i64 x.f0, Value.int .i64 x.f1].length = (cur.toList.take ((i + 1) * 2)).length by rw [hT]; simp; omega, List.drop_left]
  have e4 : (flat a ++ [Value.int .i64 x.f0, Value.int .i64 x.f1] ++ flat b).length = (n + 1) * 2 := by simp [la, lb]; omega
  rw [wr_list _ _ _ (by rw [wr_size, hsz]; simp; omega), e1, e2, e3, hlen, ← List.append_assoc, ← e4, List.take_left, flat_append, flat_cons]
  simp

set_option maxHeartbeats 4000000 in
set_option maxRecDepth 100000 in
theorem Insert_grow (w : World) (base g cap n i vb : Nat) (cur : Array Value) (a b : List S37) (x : S37) (T : TypeId) (hg : base ≤ g) (hbw : base ≤ w.heap.size) (hh : w.heap[g]? = some (.cells cur 37 (0, 0))) (hi : i = a.length) (hn : n = a.length + b.length) (hb0 : 0 < b.length) (hn2 : n ≤ 2000000) (hnc : n ≤ cap) (hroom : cap < n + 1) (hsz : cur.size = cap * 2)
    (htk : cur.toList.take (n * 2) = flat a ++ flat b) (hv : w.heap[vb]? = some (.cells #[.int .i64 x.f0, .int .i64 x.f1] T (0, 0))) :
    Calls Try.prog 39 #[.slice (some ⟨g, 0, none⟩) n cap, .int .i64 i, .slice (some ⟨vb, 0, none⟩) 1 1] w fun e w' => ∃ v', e = .returned v' ∧ Kd.R k37 37 w' base (fun _ => True) v' (a ++ x :: b) ∧ Below base w w' := by
  have la := flat_length a
  have lb := flat_length b
  have u32 := run_underlying Try.underlying35
  obtain ⟨rest, hcur⟩ : ∃ rest, cur.toList = flat a ++ (flat b ++ rest) := ⟨_, ((List.take_append_drop (n * 2) cur.toList).symm.trans (by rw [htk])).trans (List.append_assoc _ _ _)⟩
  have hcell : ∀ j, w.cell? ⟨g, j, none⟩ = (flat a ++ (flat b ++ rest))[j]? := fun j => by rw [cell_of_blk hh, ← hcur, Array.getElem?_toList]
  have hac : ∀ j v, (flat a)[j]? = some v → w.cell? ⟨g, j, none⟩ = some v := fun j v hj => by
    rw [hcell, List.getElem?_append_left (List.getElem?_eq_some_iff.1 hj).1]
    exact hj
  have hbc : ∀ j v, (flat b)[j]? = some v → w.cell? ⟨g, i * 2 + j, none⟩ = some v := fun j v hj => by
    rw [hcell, List.getElem?_append_right (by omega), la, hi, Nat.add_sub_cancel_left, List.getElem?_append_left (List.getElem?_eq_some_iff.1 hj).1]
    exact hj
  have hvc : ∀ j v, [Value.int .i64 x.f0, Value.int .i64 x.f1][j]? = some v → w.cell? ⟨vb, j, none⟩ = some v := fun j v hj => by
    rw [cell_of_blk hv, ← hj, ← List.getElem?_toArray]
  obtain ⟨i0, hi0, hz0, hz1, hz2⟩ := info_parts info37
  have hs2 : (Try.prog.info? 37).map (·.size) = some 2 := by rw [hi0]; simp [hz1]
  have mixed : Try.prog.follows .mixedOrders = true := by kernel_rfl
  have hbl : g < w.heap.size := blk_lt hh
  have hvl : vb < w.heap.size := blk_lt hv
  have hold : (Builtin.firstCells i0.size i (.slice (some ⟨g, 0, none⟩) i cap)).run Try.prog w.drew = .ok (flat a).toArray w.drew := by
    rw [hz1]
    exact run_firstCells_some w.drew 2 i ⟨g, 0, none⟩ i cap (flat a) (by rw [la, hi]) (fun j v hj => by rw [Addr.add_lit, Nat.zero_add]; exact hac j v hj)
  have hik : i + (n + 1 - i) = n + 1 := by omega
  have hkk : (n : Int) + 1 - (i : Int) = ((n + 1 - i : Nat) : Int) := by omega
  obtain ⟨G, hG⟩ : ∃ G, G = grownCap w (n + 1) cap 37 := ⟨_, rfl⟩
  obtain ⟨ROW, hROW⟩ : ∃ ROW : Array Value, ROW = (flat a).toArray ++ Builtin.zeroCells (Value.agg #[.int .i64 0, .int .i64 0]).cells (n + 1 - i) ++ Builtin.zeroCells (Value.agg #[.int .i64 0, .int .i64 0]).cells (G - (n + 1)) := ⟨_, rfl⟩
  have hrz : ∀ ty, (Builtin.append_ #[35, 3] ty #[.slice (some ⟨g, 0, none⟩) i cap, .int .i64 ((n : Int) + 1 - (i : Int))]).run Try.prog w = .ok (.slice (some ⟨w.heap.size, 0, none⟩) (n + 1) G) (w.drew.alloc (.cells ROW 37)) := fun ty => by
    have h := Lib.run_append_grow_zeros w 35 3 ty 37 i0 _ .i64 .i64 Try.underlying35 Try.underlying3 hi0 hz0 (some ⟨g, 0, none⟩) i cap (flat a) hold (n + 1 - i) (by omega) (by omega) (by omega) (by omega) (by rw [hz2]; omega) (by rw [hz2, hik]; exact growslice_fits hroom (by omega))
    rw [hik, ← hG, ← hROW] at h
    rw [hkk]
    exact h
  have hzl : ∀ m, (Builtin.zeroCells (Value.agg #[.int .i64 0, .int .i64 0]).cells m).toList = List.replicate (m * 2) (.int .i64 0) := fun m => zero_cells _ m
  have hGn : n + 1 ≤ G := by rw [hG]; exact grownCap_ge w _ _ _
  have hRl : ROW.toList = flat a ++ List.replicate ((G - i) * 2) (.int .i64 0) := by
    rw [hROW, Array.toList_append, Array.toList_append, hzl, hzl, List.append_assoc, List.replicate_append_replicate]
    congr 2
    omega
  have hRs : ROW.size = G * 2 := by rw [← Array.length_toList, hRl, List.length_append, la, List.length_replicate]; omega
  have hG63 : G ≤ maxLen := by rw [hG]; exact grownCap_le_maxLen w (n + 1) cap 37 (by unfold maxLen; omega)
  have hG64 : G ≤ 9223372036854775807 := by simpa [maxLen] using hG63
  have hGi : ¬ (G = i) := by omega
  have hGim : ¬ (G = i + 1) := by omega
  have hci : ¬ (cap = i) := by omega
  obtain ⟨W1, hW1⟩ : ∃ W1, W1 = w.drew.alloc (.cells ROW 37) := ⟨_, rfl⟩
  rw [← hW1] at hrz
  have hN : W1.heap[w.heap.size]? = some (.cells ROW 37 (0, 0)) := by rw [hW1]; exact blk_new w.drew _
  have hOb : ∀ k j v, k < w.heap.size → w.cell? ⟨k, j, none⟩ = some v → W1.cell? ⟨k, j, none⟩ = some v := fun k j v hk h => by rw [hW1, World.cell?_alloc_past (w := w.drew) _ k j hk]; exact h
  have hcpA : ∀ (W : World), (∀ x, W.cell? x = W1.cell? x) → (∀ x, W.frozen? x = W1.frozen? x) → ∀ ty dc, (Builtin.copy_ #[35, 35] ty #[.slice (some ⟨w.heap.size, i * 2, none⟩) (n + 1 - i) dc, .slice (some ⟨vb, 0, none⟩) 1 1]).run Try.prog W = .ok (goInt (Nat.min 1 (n + 1 - i))) (W.setCells w.heap.size (i * 2) [.int .i64 x.f0, .int .i64 x.f1]) := fun W hWc hWf ty dc =>
    run_copy_size W _ _ ty 37 2 w.heap.size (i * 2) (n + 1 - i) dc ⟨vb, 0, none⟩ 1 1 _ Try.underlying35 hs2 (by simp only [Nat.min_def]; split <;> simp <;> omega)
      (fun j v hj => by rw [Addr.add_lit, hWc, Nat.zero_add]; exact hOb _ _ v hvl (hvc j v hj))
      (fun j hj => by simp at hj; rw [hWc, cell_of_blk hN, Array.getElem?_eq_getElem (by omega)]; rfl) (fun j _ => by rw [hWf]; exact blk_frozen hN _) (by intro u hu; simp at hu; rcases hu with rfl | rfl <;> rfl)
  have hN2 := heap_setCells [.int .i64 x.f0, .int .i64 x.f1] (i * 2) _ _ hN
  have hcpB : ∀ (W : World), (∀ y, W.cell? y = (W1.setCells w.heap.size (i * 2) [.int .i64 x.f0, .int .i64 x.f1]).cell? y) → (∀ y, W.frozen? y = (W1.setCells w.heap.size (i * 2) [.int .i64 x.f0, .int .i64 x.f1]).frozen? y) → ∀ ty dc sc, (Builtin.copy_ #[35, 35] ty #[.slice (some ⟨w.heap.size, (i + 1) * 2, none⟩) (n - i) dc, .slice (some ⟨g, i * 2, none⟩) (n - i) sc]).run Try.prog W = .ok (goInt (Nat.min (n - i) (n - i))) (W.setCells w.heap.size ((i + 1) * 2) (flat b)) := fun W hWc hWf ty dc sc =>
    run_copy_size W _ _ ty 37 2 w.heap.size ((i + 1) * 2) (n - i) dc ⟨g, i * 2, none⟩ (n - i) sc (flat b) Try.underlying35 hs2 (by rw [lb]; simp only [Nat.min_def]; split <;> omega)
      (fun j v hj => by
        rw [Addr.add_lit, hWc, World.cell?_setCells_out _ _ _ _ _ (fun h _ => absurd h (by show g ≠ w.heap.size; omega))]
        exact hOb _ _ v hbl (hbc j v hj))
      (fun j hj => by rw [hWc, cell_of_blk hN2, Array.getElem?_eq_getElem (by rw [wr_size, hRs]; omega)]; rfl) (fun j _ => by rw [hWf]; exact blk_frozen hN2 _) (flat_one b)
  have X := Aside0.mk (heap_setCells (flat b) ((i + 1) * 2) ((w.alloc (.cells ROW 37)).drew.setCells w.heap.size (i * 2) [.int .i64 x.f0, .int .i64 x.f1]).drew _ (heap_setCells [.int .i64 x.f0, .int .i64 x.f1] (i * 2) (w.alloc (.cells ROW 37)).drew _ (blk_new w _)))
  have HB := Aside0.mk (below_setCells' hbw (flat b) ((i + 1) * 2) ((w.alloc (.cells ROW 37)).drew.setCells w.heap.size (i * 2) [.int .i64 x.f0, .int .i64 x.f1]).drew (below_drew (below_setCells' hbw [.int .i64 x.f0, .int .i64 x.f1] (i * 2) (w.alloc (.cells ROW 37)).drew (below_drew ((Below.refl base w).alloc hbw _)))))
  subst hW1
  have hE1 : ∀ x, ((w.alloc (.cells ROW 37)).drew).cell? x = (w.drew.alloc (.cells ROW 37)).cell? x := fun x => rfl
  have hE2 : ∀ x, ((w.alloc (.cells ROW 37)).drew).frozen? x = (w.drew.alloc (.cells ROW 37)).frozen? x := fun x => rfl
  have hF1 : ∀ y, (((w.alloc (.cells ROW 37)).drew.setCells w.heap.size (i * 2) [.int .i64 x.f0, .int .i64 x.f1]).drew).cell? y = ((w.drew.alloc (.cells ROW 37)).setCells w.heap.size (i * 2) [.int .i64 x.f0, .int .i64 x.f1]).cell? y := fun y => rfl
  have hF2 : ∀ y, (((w.alloc (.cells ROW 37)).drew.setCells w.heap.size (i * 2) [.int .i64 x.f0, .int .i64 x.f1]).drew).frozen? y = ((w.drew.alloc (.cells ROW 37)).setCells w.heap.size (i * 2) [.int .i64 x.f0, .int .i64 x.f1]).frozen? y := fun y => rfl
  have hin : i ≤ n := by omega
  have hic : i ≤ cap := by omega
  have hz2' : ¬ ((i : Int) = (n : Int)) := by omega
  have hz3 : (cap : Int) < (n : Int) + 1 := by omega
  have hw1 : IntKind.i64.wrap ((i : Int) + 1) = (i : Int) + 1 := by rw [IntKind.wrap_i64]; omega
  have hw2 : IntKind.i64.wrap ((n : Int) + 1) = (n : Int) + 1 := by rw [IntKind.wrap_i64]; omega
  have hw3 : IntKind.i64.wrap ((n : Int) + 1 - (i : Int)) = (n : Int) + 1 - (i : Int) := by rw [IntKind.wrap_i64]; omega
  have hb1 : (0 : Int) ≤ (i : Int) + 1 := by omega
  have hb3 : (i : Int) ≤ (n : Int) := by omega
  have HI := Aside0.mk hi
  have HN := Aside0.mk hn
  have HR := Aside0.mk hRl
  clear hi hn la lb hkk hik hold hROW hG hRl hN hN2 hOb hcell hac hbc hvc htk hv hh hcur hzl hRs hi0 hz0 hz1 hz2 hs2
  go_enter Try.func39, Try.ntmps39
  go_wp2_with (first
    | (at_builtin; refine Lib.wpList_append_run _ rfl _ _ _ _ rfl _ _ rfl rfl _ _ (hrz _) ?_)
    | (at_builtin; refine copy_at _ rfl _ _ 35 35 rfl _ _ rfl rfl (hcpA _ hE1 hE2 _ _) ?_)
    | (at_builtin; refine copy_at _ rfl _ _ 35 35 rfl _ _ rfl rfl (hcpB _ (fun _ => rfl) (fun _ => rfl) _ _ _) ?_))
  go_region_law_o (refine copy_step rfl _ _ 35 35 rfl (.slice (some ⟨w.heap.size, (i + 1) * 2, none⟩) (n - i) (G - (i + 1))) (.slice (some ⟨g, i * 2, none⟩) (n - i) (cap - i)) (by simp [Act.eval, Act.put]) (by simp [Act.eval, Act.put]) (hcpB _ hF1 hF2 3 (G - (i + 1)) (cap - i)) ?_)
  go_wp2
  go_ret
  have la := flat_length a
  have lb := flat_length b
  have hlen : (a ++ x :: b).length = n + 1 := by simp; have := HN.out; omega
  have hi := HI.out
  have hn := HN.out
  have hRs : ROW.size = G * 2 := by rw [← Array.length_toList, HR.out, List.length_append, la, List.length_replicate]; omega
  refine ⟨_, rfl, flat_R ⟨flat_length _, .inr ⟨w.heap.size, G, _, by rw [hlen]; rfl, hbw, X.out, by rw [hlen]; exact hGn, hG63, by rw [wr_size, wr_size, hRs], ?_⟩⟩, HB.out⟩
  obtain ⟨R0, hR0⟩ : ∃ R0, R0 = List.replicate ((G - i) * 2) (Value.int .i64 0) := ⟨_, rfl⟩
  have hl0 : R0.length = (G - i) * 2 := by rw [hR0, List.length_replicate]
  have HR' := HR.out
  rw [← hR0] at HR'
  have e1 : (wr ROW (i * 2) [Value.int .i64 x.f0, Value.int .i64 x.f1]).toList = (flat a ++ [Value.int .i64 x.f0, Value.int .i64 x.f1]) ++ ROW.toList.drop (i * 2 + [Value.int .i64 x.f0, Value.int .i64 x.f1].length) := by
    rw [wr_list _ _ _ (by rw [hRs]; simp; omega)]
    congr 2
    rw [HR', hi, ← la, List.take_left]
  have e2 : (flat a ++ [Value.int .i64 x.f0, Value.int .i64 x.f1]).length = (i + 1) * 2 := by simp [la]; omega
  have e4 : (flat a ++ [Value.int .i64 x.f0, Value.int .i64 x.f1] ++ flat b).length = (n + 1) * 2 := by simp [la, lb]; omega
  rw [wr_list _ _ _ (by rw [wr_size, hRs, lb]; omega), e1, ← e2, List.take_left, hlen, ← e4, List.take_left, flat_append, flat_cons]
  simp

/-- slices.Insert of one block. -/
theorem Insert_blk (w : World) (base : Nat) (v : Value) (a b : List S37) (x : S37) (vb : Nat) (T : TypeId) (hR : Kd.R k37 37 w base (fun _ => True) v (a ++ b)) (hl : (a ++ b).length ≤ 2000000) (hb : base ≤ w.heap.size)
    (hv : w.heap[vb]? = some (.cells #[.int .i64 x.f0, .int .i64 x.f1] T (0, 0))) (hne : v.ownBlock ≠ some vb) :
    Calls Try.prog 39 #[v, .int .i64 a.length, .slice (some ⟨vb, 0, none⟩) 1 1] w fun e w' => ∃ v', e = .returned v' ∧ Kd.R k37 37 w' base (fun _ => True) v' (a ++ x :: b) ∧ Below base w w' := by
  cases b with
  | nil =>
    rw [List.append_nil] at hR hl
    exact Insert_end w base v a x vb T hR hl hb hv
  | cons y r =>
    have HO := R_flat hR
    rcases HO.2 with ⟨rfl, h0⟩ | ⟨g, cap, cur, rfl, hg, hh, hnc, hcm, hsz, htk⟩
    · simp at h0
    have hlen : (a ++ y :: r).length = a.length + (y :: r).length := List.length_append
    rw [hlen] at hnc htk hl ⊢
    rw [flat_append] at htk
    rcases Nat.lt_or_ge cap (a.length + (y :: r).length + 1) with hc | hc
    · exact Insert_grow w base g cap _ _ vb cur a (y :: r) x T hg hb hh rfl rfl (by simp) hl hnc hc hsz htk hv
    · exact Insert_shift w base g cap _ _ vb cur a (y :: r) x T hg hh rfl rfl (by simp) hc (by simpa [maxLen] using hcm) hsz htk hv (fun h => hne (by rw [h]; rfl))
end Go.Proofs.Ytobboonnfocalaa.Sl
