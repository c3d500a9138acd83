/- The laws' marks in a row of warps, each of whose two slices is a block of its own. Conditions: none. -/
import Derived.Test.YtobboonnfocalaaGreatDoorMarkIntG1
import Derived.Test.YtobboonnfocalaaGreatDoorT2G1
import Derived.Test.YtobboonnfocalaaGreatDoorPG1x4
set_option linter.unusedVariables false
set_option linter.unusedSimpArgs false
namespace Go.Proofs.YtobboonnfocalaaGreatDoor.PG1
open Go.RowKit Go.Proofs.YtobboonnfocalaaGreatDoor.Base Go.Proofs.YtobboonnfocalaaGreatDoor.T Go.Proofs.YtobboonnfocalaaGreatDoorW.PrintWords Go.Proofs.YtobboonnfocalaaGreatDoorW.PrintLast Go.Proofs.YtobboonnfocalaaGreatDoorW.PrintMore

/-! ### an element that is out, over worlds -/
section
variable {α : Type} {d : Kd α} {e base g n cap : Nat} {W W2 : World} {ok oki P : Nat → Prop} {v : Value} {xs : List α} {i : Int} {c : List Value}
theorem H_cells (h : Kd.H d e W base ok (.slice (some ⟨g, 0, none⟩) n cap) xs i oki c) (h0 : 0 ≤ i) (h1 : i < n) : ∀ j u, c[j]? = some u → W.cell? ⟨g, i.toNat * d.sz + j, none⟩ = some u := by
  obtain ⟨_, _, _, _, _, hcc, _⟩ := Kd.H_raw h h0 h1
  exact hcc
theorem H_frozen (h : Kd.H d e W base ok (.slice (some ⟨g, 0, none⟩) n cap) xs i oki c) (j : Nat) : W.frozen? ⟨g, j, none⟩ = false := by
  obtain ⟨_, f, hR⟩ := h
  obtain ⟨cells, hc⟩ := Kd.R_typed hR g (by simp [Value.ownBlock])
  exact blk_frozen hc j
theorem H_kept (h : Kd.H d e W base ok v xs i oki c) (hk : Kept W W2 P) (hP : ∀ k, P k → oki k) : Kd.H d e W2 base ok v xs i oki c := by
  obtain ⟨ho, f, hR⟩ := h
  exact ⟨ho, f, Kd.R_step hR (fun k hk2 hlt => hk.2 k hlt (fun hp => hk2.2 (hP k hp)))⟩
theorem R_kept_ (h : d.R e W base ok v xs) (hk : Kept W W2 P) (hne : ∀ k, ok k → ¬ P k) : d.R e W2 base ok v xs := Kd.R_step h (fun k ho hlt => hk.2 k hlt (hne k ho))
end
/-- Element i of the row of warps at g is out: its cells c, its two slices v1 and v2, each a block of its own. -/
def MS (W : World) (base : Nat) (ok : Nat → Prop) (g n cap : Nat) (xs : List S49) (i : Int) (oki : Nat → Prop) (c : List Value) (v1 v2 : Value) (l1 l2 : List Int) : Prop :=
  Kd.H k49 49 W base ok (.slice (some ⟨g, 0, none⟩) n cap) xs i oki c ∧ (Kd.int .i64).R 3 W base (fun k => oki k ∧ some k ≠ v2.ownBlock) v1 l1 ∧ (Kd.int .i64).R 3 W base (fun k => oki k ∧ some k ≠ v1.ownBlock) v2 l2 ∧ ¬ oki g ∧ 0 ≤ i ∧ i < n
section
variable {base g n cap : Nat} {W W2 : World} {ok oki : Nat → Prop} {v1 v2 : Value} {xs : List S49} {i : Int} {c : List Value} {l1 l2 : List Int}
theorem MS_cell (h : MS W base ok g n cap xs i oki c v1 v2 l1 l2) (j : Nat) (u : Value) (hj : c[j]? = some u) : W.cell? ⟨g, i.toNat * 8 + j, none⟩ = some u := H_cells h.1 h.2.2.2.2.1 h.2.2.2.2.2 j u hj
theorem MS_frozen (h : MS W base ok g n cap xs i oki c v1 v2 l1 l2) (j : Nat) : W.frozen? ⟨g, j, none⟩ = false := H_frozen h.1 j
theorem MS_store (h : MS W base ok g n cap xs i oki c v1 v2 l1 l2) (j : Nat) (hj : j < 8) (x : Value) (hx : x.oneCell' = true) : MS (W.setCell ⟨g, i.toNat * 8 + j, none⟩ x) base ok g n cap xs i oki (c.take j ++ [x] ++ c.drop (j + 1)) v1 v2 l1 l2 := by
  obtain ⟨hH, h1, h2, hg, h3, h4⟩ := h
  have hs := (Kd.H_seg hH h3 h4 (seg := [x]) (j := j) (by show j + 1 ≤ 8; omega) (by intro q hq; rw [List.mem_singleton.1 hq]; exact hx)).1
  refine ⟨hs, Kd.R_far h1 (fun k hk e => hg ?_) x, Kd.R_far h2 (fun k hk e => hg ?_) x, hg, h3, h4⟩
  · have : k = g := e
    exact this ▸ hk.1
  · have : k = g := e
    exact this ▸ hk.1
theorem MS_mark1 (h : MS W base ok g n cap xs i oki c v1 v2 l1 l2) {ok' : Nat → Prop} {l1' : List Int} (hR : (Kd.int .i64).R 3 W2 base ok' v1 l1') (hk : Kept W W2 (fun k => some k = v1.ownBlock)) : MS W2 base ok g n cap xs i oki c v1 v2 l1' l2 := by
  obtain ⟨hH, h1, h2, hg, h3, h4⟩ := h
  exact ⟨H_kept hH hk (fun k e => (h1.1 k e.symm).1), Kd.R_mono (Kd.R_tight rfl hR) (fun k e => h1.1 k e.symm), R_kept_ h2 hk (fun k hk2 e => hk2.2 e), hg, h3, h4⟩
theorem MS_mark2 (h : MS W base ok g n cap xs i oki c v1 v2 l1 l2) {ok' : Nat → Prop} {l2' : List Int} (hR : (Kd.int .i64).R 3 W2 base ok' v2 l2') (hk : Kept W W2 (fun k => some k = v2.ownBlock)) : MS W2 base ok g n cap xs i oki c v1 v2 l1 l2' := by
  obtain ⟨hH, h1, h2, hg, h3, h4⟩ := h
  exact ⟨H_kept hH hk (fun k e => (h2.1 k e.symm).1), R_kept_ h1 hk (fun k hk2 e => hk2.2 e), Kd.R_mono (Kd.R_tight rfl hR) (fun k e => h2.1 k e.symm), hg, h3, h4⟩
theorem MS_init {u : Value} (h : Kd.S k49 49 W base ok u xs) (i : Int) (h0 : 0 ≤ i) (h1 : i < xs.length) :
    ∃ g cap oki v1 v2, u = .slice (some ⟨g, 0, none⟩) xs.length cap ∧ ok g ∧ (∀ k, oki k → ok k) ∧ MS W base ok g xs.length cap xs i oki [.int .i64 (xs.getD i.toNat z49).f0, v1, v2, .int .u32 (xs.getD i.toNat z49).f3, .int .i64 (xs.getD i.toNat z49).f4, .int .i64 (xs.getD i.toNat z49).f5, .int .i64 (xs.getD i.toNat z49).f6, .int .u32 (xs.getD i.toNat z49).f7] v1 v2 (xs.getD i.toNat z49).f1 (xs.getD i.toNat z49).f2 := by
  obtain ⟨g, cap, rfl, _, _, _⟩ := Kd.S_form h (by omega)
  obtain ⟨oki, c, _, hM, _, _, hoki, hH⟩ := Kd.S_elem h z49 i h0 h1
  obtain ⟨v1, v2, rfl, r1, r2⟩ := k49_openS hM
  exact ⟨g, cap, oki, v1, v2, rfl, (Kd.S_R h).1 g (by simp [Value.ownBlock]), fun k hk => (hoki k hk).1, hH, r1, r2, fun hk => (hoki g hk).2 rfl, h0, h1⟩
theorem MS_back (x : S49) (h : MS W base ok g n cap xs i oki [.int .i64 x.f0, v1, v2, .int .u32 x.f3, .int .i64 x.f4, .int .i64 x.f5, .int .i64 x.f6, .int .u32 x.f7] v1 v2 x.f1 x.f2) : Kd.S k49 49 W base ok (.slice (some ⟨g, 0, none⟩) n cap) (xs.set i.toNat x) :=
  Kd.H_back h.1 (x' := x) (okp := oki) ⟨v1, v2, rfl, h.2.1, h.2.2.1⟩ (fun _ hk => hk)
end

theorem MS_back' {base g n cap : Nat} {W : World} {ok oki : Nat → Prop} {v1 v2 : Value} {xs : List S49} {i : Int} {l1 l2 : List Int} {b0 b3 b4 b5 b6 b7 : Int} (x : S49) (h : MS W base ok g n cap xs i oki [.int .i64 b0, v1, v2, .int .u32 b3, .int .i64 b4, .int .i64 b5, .int .i64 b6, .int .u32 b7] v1 v2 l1 l2) (e : x = ⟨b0, l1, l2, b3, b4, b5, b6, b7⟩) : Kd.S k49 49 W base ok (.slice (some ⟨g, 0, none⟩) n cap) (xs.set i.toNat x) := by
  subst e
  exact MS_back _ h
/-- The same, with what the call has kept so far. -/
def MSX (w0 w W : World) (P0_ : Nat → Prop) (g n cap : Nat) (xs : List S49) (i : Int) (oki : Nat → Prop) (c : List Value) (v1 v2 : Value) (l1 l2 : List Int) : Prop :=
  MS W w0.heap.size P0_ g n cap xs i oki c v1 v2 l1 l2 ∧ Kept w W P0_ ∧ Below w0.heap.size w0 W ∧ P0_ g ∧ (∀ k, oki k → P0_ k) ∧ w0.heap.size ≤ g
section
variable {w0 w W W2 : World} {P0_ oki ok' : Nat → Prop} {g n cap : Nat} {v1 v2 : Value} {xs : List S49} {i : Int} {c : List Value} {l1 l2 l1' l2' : List Int}
theorem MSX_store {c' : List Value} (h : MSX w0 w W P0_ g n cap xs i oki c v1 v2 l1 l2) (j : Nat) (hj : j < 8) (x : Value) (hx : x.oneCell' = true) (hw : W2 = W.setCell ⟨g, i.toNat * 8 + j, none⟩ x) (hc : c.take j ++ [x] ++ c.drop (j + 1) = c') : MSX w0 w W2 P0_ g n cap xs i oki c' v1 v2 l1 l2 := by
  subst hw hc
  exact ⟨MS_store h.1 j hj x hx, h.2.1.setCell (.inl h.2.2.2.1) x, below_set h.2.2.1 h.2.2.2.2.2, h.2.2.2⟩
theorem MSX_mark1 (h : MSX w0 w W P0_ g n cap xs i oki c v1 v2 l1 l2) (hR : (Kd.int .i64).R 3 W2 w0.heap.size ok' v1 l1') (hb : Below w0.heap.size w0 W2) (hk : Kept W W2 (fun k => some k = v1.ownBlock)) : MSX w0 w W2 P0_ g n cap xs i oki c v1 v2 l1' l2 :=
  ⟨MS_mark1 h.1 hR hk, h.2.1.then_ hk (fun k e => .inl (h.2.2.2.2.1 k (h.1.2.1.1 k e.symm).1)), hb, h.2.2.2⟩
theorem MSX_mark2 (h : MSX w0 w W P0_ g n cap xs i oki c v1 v2 l1 l2) (hR : (Kd.int .i64).R 3 W2 w0.heap.size ok' v2 l2') (hb : Below w0.heap.size w0 W2) (hk : Kept W W2 (fun k => some k = v2.ownBlock)) : MSX w0 w W2 P0_ g n cap xs i oki c v1 v2 l1 l2' :=
  ⟨MS_mark2 h.1 hR hk, h.2.1.then_ hk (fun k e => .inl (h.2.2.2.2.1 k (h.1.2.2.1.1 k e.symm).1)), hb, h.2.2.2⟩
theorem MSX_cells (h : MSX w0 w W P0_ g n cap xs i oki c v1 v2 l1 l2) {c0 c1 c2 c3 c4 c5 c6 c7 : Value} (hc : c = [c0, c1, c2, c3, c4, c5, c6, c7] := by rfl) :
    (W.cell? ⟨g, i.toNat * 8, none⟩ = some c0 ∧ W.cell? ⟨g, i.toNat * 8 + 1, none⟩ = some c1 ∧ W.cell? ⟨g, i.toNat * 8 + 2, none⟩ = some c2 ∧ W.cell? ⟨g, i.toNat * 8 + 3, none⟩ = some c3 ∧ W.cell? ⟨g, i.toNat * 8 + 4, none⟩ = some c4 ∧ W.cell? ⟨g, i.toNat * 8 + 5, none⟩ = some c5 ∧ W.cell? ⟨g, i.toNat * 8 + 6, none⟩ = some c6 ∧ W.cell? ⟨g, i.toNat * 8 + 7, none⟩ = some c7) ∧
    (W.frozen? ⟨g, i.toNat * 8, none⟩ = false ∧ W.frozen? ⟨g, i.toNat * 8 + 3, none⟩ = false ∧ W.frozen? ⟨g, i.toNat * 8 + 4, none⟩ = false ∧ W.frozen? ⟨g, i.toNat * 8 + 5, none⟩ = false ∧ W.frozen? ⟨g, i.toNat * 8 + 6, none⟩ = false ∧ W.frozen? ⟨g, i.toNat * 8 + 7, none⟩ = false) := by
  subst hc
  exact ⟨⟨MS_cell h.1 0 _ rfl, MS_cell h.1 1 _ rfl, MS_cell h.1 2 _ rfl, MS_cell h.1 3 _ rfl, MS_cell h.1 4 _ rfl, MS_cell h.1 5 _ rfl, MS_cell h.1 6 _ rfl, MS_cell h.1 7 _ rfl⟩, MS_frozen h.1 _, MS_frozen h.1 _, MS_frozen h.1 _, MS_frozen h.1 _, MS_frozen h.1 _, MS_frozen h.1 _⟩
end

/-! ### laws_markWarpS: function 28 -/
/-- A warp with its marks from y on. -/
def mk1 (y : Int) (x : S49) : S49 :=
  ⟨y, ups (y + 1) x.f1.length, ups (y + 1 + x.f1.length) x.f2.length, y + 1 + x.f1.length + x.f2.length, y + 2 + x.f1.length + x.f2.length, y + 3 + x.f1.length + x.f2.length, y + 4 + x.f1.length + x.f2.length, y + 5 + x.f1.length + x.f2.length⟩
/-- How many marks the warps take. -/
def mkS : List S49 → Int
  | [] => 0
  | x :: r => 6 + x.f1.length + x.f2.length + mkS r
def mkL : Int → List S49 → List S49
  | _, [] => []
  | y, x :: r => mk1 y x :: mkL (y + (6 + x.f1.length + x.f2.length)) r
theorem mkS_nonneg : ∀ l, 0 ≤ mkS l
  | [] => Int.le_refl _
  | x :: r => by have := mkS_nonneg r; rw [mkS]; omega
theorem mkS_len : ∀ l : List S49, 6 * (l.length : Int) ≤ mkS l
  | [] => by simp [mkS]
  | x :: r => by have := mkS_len r; rw [mkS, List.length_cons]; omega
theorem mkS_append : ∀ p r, mkS (p ++ r) = mkS p + mkS r
  | [], r => by simp [mkS]
  | x :: p, r => by rw [List.cons_append, mkS, mkS, mkS_append p r]; omega
theorem mkL_length : ∀ (l : List S49) (y : Int), (mkL y l).length = l.length
  | [], _ => rfl
  | x :: r, y => by rw [mkL, List.length_cons, List.length_cons, mkL_length r]
theorem mkL_append : ∀ (p r : List S49) (y : Int), mkL y (p ++ r) = mkL y p ++ mkL (y + mkS p) r
  | [], r, y => by simp [mkL, mkS]
  | x :: p, r, y => by rw [List.cons_append, mkL, mkL, mkL_append p r, List.cons_append, mkS, Int.add_assoc y]
theorem getD_mid {α : Type} (p r : List α) (x z : α) : (p ++ x :: r).getD p.length z = x := by simp [List.getD_eq_getElem?_getD]
theorem set_mid {α : Type} (p r : List α) (x y : α) : (p ++ x :: r).set p.length y = p ++ y :: r := by simp

set_option maxHeartbeats 8000000 in
set_option maxRecDepth 100000 in
theorem laws_markWarpS.calls (P0_ : Nat → Prop) (u : Value) (l0 : List S49) (a1 : Int) (w0 w : World) (hB : Below w0.heap.size w0 w) (ho : Kd.S k49 49 w w0.heap.size P0_ u l0) (h0 : 0 ≤ a1) (hn : a1 + mkS l0 ≤ 9000000) :
    Calls Tryz.prog 28 #[u, .int .i64 a1] w fun e w' => e = .returned (.int .i64 (a1 + mkS l0)) ∧ Kd.S k49 49 w' w0.heap.size P0_ u (mkL a1 l0) ∧ Below w0.heap.size w0 w' ∧ Kept w w' P0_ := by
  have HO := Aside0.mk ho
  have HB := Aside0.mk hB
  have HK := Aside0.mk (Kept.refl w P0_)
  obtain ⟨A, cp, hu⟩ := Kd.S_slice ho
  subst hu
  have hlen := mkS_len l0
  clear ho hB
  go_enter Tryz.func28, Tryz.ntmps28
  go_wp2
  go_loopg [1, 5] (l0.length) (fun gg v1 v5 wr => ∃ (p r : List S49) (y i : Int), (l0 = p ++ r ∧ y = a1 + mkS p ∧ i = (p.length : Int) ∧ r.length ≤ gg) ∧ v1 = .int .i64 y ∧ v5 = .int .i64 i ∧ Aside0 (Kd.S k49 49 wr w0.heap.size P0_ (.slice A l0.length cp) (mkL a1 p ++ r)) ∧ Aside0 (Kept w wr P0_) ∧ Aside0 (Below w0.heap.size w0 wr))
  case atStart => exact ⟨[], l0, a1, 0, ⟨rfl, by simp [mkS], rfl, Nat.le_refl _⟩, rfl, rfl, ⟨HO.out⟩, ⟨HK.out⟩, ⟨HB.out⟩⟩
  case round =>
    clear HO HB HK
    obtain ⟨p, r, y, i, ⟨hl, hy, hi, hg⟩, rfl, rfl, HO, HK, HB⟩ := hrel
    cases r with
    | nil =>
      have hi' : ¬ i < (l0.length : Int) := by rw [hl, hi]; simp
      have e : y = a1 + mkS l0 := by rw [hy, hl]; simp
      have HL := Aside0.mk hl
      clear hl hy hi
      go_wp2
      go_ret
      refine ⟨rfl, ?_, HB.out, HK.out⟩
      have h_ := HO.out
      simp only [HL.out, List.append_nil] at h_ ⊢
      exact h_
    | cons x r =>
      have hp := mkS_nonneg p
      have hr := mkS_nonneg r
      have hs : mkS l0 = mkS p + (6 + x.f1.length + x.f2.length + mkS r) := by rw [hl, mkS_append, mkS]
      have hll : l0.length = p.length + (r.length + 1) := by rw [hl, List.length_append, List.length_cons]
      have hi0 : 0 ≤ i := by omega
      have hi1 : i < (l0.length : Int) := by omega
      have hin : i.toNat = p.length := by omega
      obtain ⟨g, cap, oki, v1, v2, hu, hP, hoki, hM⟩ := MS_init HO.out i hi0 (by rw [List.length_append, mkL_length, List.length_cons]; omega)
      have hxe : (mkL a1 p ++ x :: r).getD i.toNat z49 = x := by rw [hin, ← mkL_length p a1]; exact getD_mid _ _ _ _
      rw [hxe] at hM
      have hne : (mkL a1 p ++ x :: r).length = l0.length := by rw [List.length_append, mkL_length, List.length_cons, hll]
      rw [hne] at hM hu
      injection hu with ea_ _ ec_
      subst ea_
      subst ec_
      have M0 : Aside0 (MSX w0 w wr P0_ g l0.length cp (mkL a1 p ++ x :: r) i oki _ v1 v2 x.f1 x.f2) := ⟨hM, HK.out, HB.out, hP, hoki, Kd.S_base HO.out g (by simp [Value.ownBlock])⟩
      clear hM hP hoki hne HK HB
      obtain ⟨y1, ey1⟩ : ∃ z : Int, z = y + 1 := ⟨_, rfl⟩
      obtain ⟨y2, ey2⟩ : ∃ z : Int, z = y1 + x.f1.length := ⟨_, rfl⟩
      obtain ⟨y3, ey3⟩ : ∃ z : Int, z = y2 + x.f2.length := ⟨_, rfl⟩
      obtain ⟨y4, ey4⟩ : ∃ z : Int, z = y3 + 1 := ⟨_, rfl⟩
      obtain ⟨y5, ey5⟩ : ∃ z : Int, z = y4 + 1 := ⟨_, rfl⟩
      obtain ⟨y6, ey6⟩ : ∃ z : Int, z = y5 + 1 := ⟨_, rfl⟩
      obtain ⟨y7, ey7⟩ : ∃ z : Int, z = y6 + 1 := ⟨_, rfl⟩
      obtain ⟨y8, ey8⟩ : ∃ z : Int, z = y7 + 1 := ⟨_, rfl⟩
      obtain ⟨i1, ei1⟩ : ∃ z : Int, z = i + 1 := ⟨_, rfl⟩
      have hb1 : 0 ≤ y ∧ y + 6 + x.f1.length + x.f2.length ≤ 9000000 := by omega
      have s1 : IntKind.i64.wrap (y + 1) = y1 := (i64_w _).trans (by unfold wrap64; omega)
      have s4 : IntKind.i64.wrap (y3 + 1) = y4 := (i64_w _).trans (by unfold wrap64; omega)
      have s5 : IntKind.i64.wrap (y4 + 1) = y5 := (i64_w _).trans (by unfold wrap64; omega)
      have s6 : IntKind.i64.wrap (y5 + 1) = y6 := (i64_w _).trans (by unfold wrap64; omega)
      have s7 : IntKind.i64.wrap (y6 + 1) = y7 := (i64_w _).trans (by unfold wrap64; omega)
      have s8 : IntKind.i64.wrap (y7 + 1) = y8 := (i64_w _).trans (by unfold wrap64; omega)
      have c3 : IntKind.u32.wrap y3 = y3 := by simp [IntKind.wrap, IntKind.signed, IntKind.bits]; omega
      have c7 : IntKind.u32.wrap y7 = y7 := by simp [IntKind.wrap, IntKind.signed, IntKind.bits]; omega
      have si : IntKind.i64.wrap (i + 1) = i1 := (i64_w _).trans (by have := Kd.S_slice HO.out; unfold wrap64; omega)
      have t0 : (0 ≤ i) = True := eq_true hi0
      have t1 : (i < (l0.length : Int)) = True := eq_true hi1
      have HX := Aside0.mk (show x.f1.length ≤ 9000000 ∧ x.f2.length ≤ 9000000 ∧ (0 ≤ y ∧ y + 6 + x.f1.length + x.f2.length ≤ 9000000) ∧ y1 = y + 1 ∧ y2 = y1 + x.f1.length ∧ y3 = y2 + x.f2.length ∧ y4 = y3 + 1 ∧ y5 = y4 + 1 ∧ y6 = y5 + 1 ∧ y7 = y6 + 1 ∧ y8 = y7 + 1 ∧ i1 = i + 1 ∧ y = a1 + mkS p ∧ i = (p.length : Int) by omega)
      have EY2 := Aside0.mk ey2
      have EY3 := Aside0.mk ey3
      have HL := Aside0.mk hl
      have HIN := Aside0.mk hin
      have HG := Aside0.mk hg
      clear ey1 ey2 ey3 ey4 ey5 ey6 ey7 ey8 ei1 hl hy hi hin hll hs hxe hb1 hi0 hi1 hp hr hg hlen
      have hcell := MSX_cells M0.out
      obtain ⟨⟨haa, hab, hac, had, hae, haf, hag, hah⟩, hai, haj, hak, hal, ham, han⟩ := hcell
      have hu1 := Tryz.underlying49
      clear HO
      go_wp2_with (first
        | ((with_reducible refine gate_store (t := 3) (p := 16) rfl ?_); refine store_event (t := 3) (p := 16) (v := ?vo) (w1 := wr.setCell ⟨g, i.toNat * 8, none⟩ (.int .i64 y)) ?hg ?ho ?hn ?hr ?_; (case ho => rfl); (case hg => rfl); (case hn => rfl); (case hr => first | (go_simp; done) | (go_simp; rfl)); intro w1 hw_; have M1 := Aside0.mk (MSX_store (c' := [.int .i64 y, v1, v2, .int .u32 x.f3, .int .i64 x.f4, .int .i64 x.f5, .int .i64 x.f6, .int .u32 x.f7]) M0.out 0 (by decide) (.int .i64 y) rfl hw_ rfl); clear hw_; obtain ⟨⟨hba, hbb, hbc, hbd, hbe, hbf, hbg, hbh⟩, hbi, hbj, hbk, hbl, hbm, hbn⟩ := MSX_cells M1.out)
        | ((with_reducible refine gf 29 ?_); refine gc Tryz.func29 (some 25) (laws_markIntS.calls (x.f1.length + 1) (fun k_ => some k_ = (v1 : Value).ownBlock) v1 x.f1 y1 y2 (ups y1 x.f1.length) w0 _ M1.out.2.2.1 (Kd.R_tight rfl M1.out.1.2.1) (by rw [markIntS_at x.f1 y1 (x.f1.length + 1) (by omega) (by have := HX.out; omega) (by have := HX.out; omega), ← EY2.out])) ?_; rintro e w2 ⟨rfl, hR_, hb_, hk_⟩; refine ⟨_, rfl, ?_⟩; have M2 := Aside0.mk (MSX_mark1 M1.out hR_ hb_ hk_); clear hR_ hb_ hk_; obtain ⟨⟨hca, hcb, hcc, hcd, hce, hcf, hcg, hch⟩, hci, hcj, hck, hcl, hcm, hcn⟩ := MSX_cells M2.out)
        | ((with_reducible refine gf 29 ?_); refine gc Tryz.func29 (some 32) (laws_markIntS.calls (x.f2.length + 1) (fun k_ => some k_ = (v2 : Value).ownBlock) v2 x.f2 y2 y3 (ups y2 x.f2.length) w0 _ M2.out.2.2.1 (Kd.R_tight rfl M2.out.1.2.2.1) (by rw [markIntS_at x.f2 y2 (x.f2.length + 1) (by omega) (by have := HX.out; omega) (by have := HX.out; omega), ← EY3.out])) ?_; rintro e w3 ⟨rfl, hR_, hb_, hk_⟩; refine ⟨_, rfl, ?_⟩; have M3 := Aside0.mk (MSX_mark2 M2.out hR_ hb_ hk_); clear hR_ hb_ hk_; obtain ⟨⟨hda, hdb, hdc, hdd, hde, hdf, hdg, hdh⟩, hdi, hdj, hdk, hdl, hdm, hdn⟩ := MSX_cells M3.out))
      go_roundg (r.length)
      case measure => have := HG.out; rw [List.length_cons] at this; omega
      case rel =>
        have hx_ := HX.out
        have M4 := MSX_store (c' := [.int .i64 y, v1, v2, .int .u32 y3, .int .i64 x.f4, .int .i64 x.f5, .int .i64 x.f6, .int .u32 x.f7]) M3.out 3 (by decide) (.int .u32 y3) rfl rfl rfl
        have M5 := MSX_store (c' := [.int .i64 y, v1, v2, .int .u32 y3, .int .i64 y4, .int .i64 x.f5, .int .i64 x.f6, .int .u32 x.f7]) M4 4 (by decide) (.int .i64 y4) rfl rfl rfl
        have M6 := MSX_store (c' := [.int .i64 y, v1, v2, .int .u32 y3, .int .i64 y4, .int .i64 y5, .int .i64 x.f6, .int .u32 x.f7]) M5 5 (by decide) (.int .i64 y5) rfl rfl rfl
        have M7 := MSX_store (c' := [.int .i64 y, v1, v2, .int .u32 y3, .int .i64 y4, .int .i64 y5, .int .i64 y6, .int .u32 x.f7]) M6 6 (by decide) (.int .i64 y6) rfl rfl rfl
        have M8 := MSX_store (c' := [.int .i64 y, v1, v2, .int .u32 y3, .int .i64 y4, .int .i64 y5, .int .i64 y6, .int .u32 y7]) M7 7 (by decide) (.int .u32 y7) rfl rfl rfl
        clear M4 M5 M6 M7
        have e1 : mk1 y x = ⟨y, ups y1 x.f1.length, ups y2 x.f2.length, y3, y4, y5, y6, y7⟩ := by
          unfold mk1
          congr 1 <;> first | omega | (congr 1; omega)
        refine ⟨p ++ [x], r, y8, i1, ⟨by rw [HL.out, List.append_assoc, List.singleton_append], by rw [mkS_append, mkS, mkS]; omega, by rw [List.length_append, List.length_singleton]; omega, Nat.le_refl _⟩, rfl, rfl, ⟨?_⟩, ⟨M8.2.1⟩, ⟨M8.2.2.1⟩⟩
        have hb_ := MS_back' (mk1 y x) M8.1 e1
        have e2 : (mkL a1 p ++ x :: r).set i.toNat (mk1 y x) = mkL a1 p ++ mk1 y x :: r := by rw [HIN.out, ← mkL_length p a1]; exact set_mid _ _ _ _
        rw [e2] at hb_
        have e3 : mkL a1 (p ++ [x]) ++ r = mkL a1 p ++ mk1 y x :: r := by rw [mkL_append, List.append_assoc, mkL, mkL, List.singleton_append, show a1 + mkS p = y by omega]
        rw [e3]
        exact hb_
end Go.Proofs.YtobboonnfocalaaGreatDoor.PG1
