/- The program's search for the block at a word. Conditions: none. -/
import Derived.Test.YtobboonnfocalaaPB1x13
import Derived.Test.YtobboonnfocalaaSlBlk
set_option linter.unusedVariables false
set_option linter.unusedSimpArgs false
namespace Go.Proofs.Ytobboonnfocalaa.PB1
open Go.RowKit Go.Proofs.YtobboonnfocalaaW.PrintWords Go.Proofs.YtobboonnfocalaaW.PrintLast Go.Proofs.YtobboonnfocalaaW.PrintMore Go.Proofs.Ytobboonnfocalaa.Sl

/-- The word lies in the block, as the program asks it. -/
def hits (t : Int) (b : S37) : Bool := decide (t ≥ b.f0) && decide (wrap64 (t - b.f0) < b.f1)
theorem find1 (b : S37) (t : Int) (ad : Addr) (w : World) (h : w.cell? ad = some (.int .i64 t)) : Calls Try.prog 42 #[encB b, .pointer ad] w fun e w' => e = .returned (.bool (hits t b)) ∧ Below w.heap.size w w' := by
  have hu := Try.underlying37
  have hB : Below w.heap.size w (w.alloc (.cells #[.int .i64 b.f0, .int .i64 b.f1] 37)) := (Below.refl _ _).alloc (Nat.le_refl _) _
  have h2 := pw_cell_below hB h
  unfold encB hits
  by_cases c1 : t ≥ b.f0
  · go_enter Try.func42, Try.ntmps42
    go_wp2
    go_ret
    exact ⟨by rw [decide_eq_true c1, Bool.true_and]; rfl, hB⟩
  · go_enter Try.func42, Try.ntmps42
    go_wp2
    go_ret
    have e : decide (b.f0 ≤ t) = false := decide_eq_false (by omega)
    exact ⟨by simp only [ge_iff_le, e, Bool.false_and]; rfl, hB⟩

/-! ### impl_LiveFind: function 15 -/
def impl_LiveFind.f (k : Nat) (l0 : List S37) (a1 : Int) (a2 : Int) : Option (Int × Int × Bool) := (impl_areLive.f k l0 a1).bind fun t => (if t = true then (if idxOf (hits a2) l0 < 0 then some (0, 0, false) else some ((rd_T37 l0 (idxOf (hits a2) l0)).f0, (rd_T37 l0 (idxOf (hits a2) l0)).f1, true)) else some (0, 0, false))
theorem impl_LiveFind.mono : ∀ a0 a1 a2 k, LeO (impl_LiveFind.f k a0 a1 a2) (impl_LiveFind.f (k + 1) a0 a1 a2) := by
  intro a0 a1 a2 k
  unfold impl_LiveFind.f
  exact LeO.bind (impl_areLive.mono _ _ _) (fun _ => LeO.refl _)
theorem idx_range (p : S37 → Bool) (l : List S37) : -1 ≤ idxOf p l ∧ idxOf p l < l.length := by
  have key : ∀ (l : List S37) (i : Nat), -1 ≤ idxFrom p i l ∧ idxFrom p i l < i + l.length ∨ idxFrom p i l = -1 := by
    intro l
    induction l with
    | nil => intro i; exact .inr rfl
    | cons x r ih =>
      intro i
      simp only [idxFrom]
      by_cases h : p x = true
      · rw [if_pos h]; left; simp only [List.length_cons]; omega
      · rw [if_neg h]
        rcases ih (i + 1) with h | h
        · left; simp only [List.length_cons]; omega
        · exact .inr h
  rcases key l 0 with h | h
  · exact ⟨h.1, by have := h.2; unfold idxOf; omega⟩
  · unfold idxOf; omega
set_option maxHeartbeats 4000000 in
set_option maxRecDepth 100000 in
theorem impl_LiveFind.calls (k : Nat) (A0 : Option Addr) (c0 : Nat) (l0 : List S37) (a1 : Int) (a2 : Int) (r1 : Int) (r2 : Int) (r3 : Bool) (w : World) (hr0 : Kd.C k37 w A0 l0.length l0) (hc0 : l0.length ≤ c0) (h : impl_LiveFind.f k l0 a1 a2 = some (r1, r2, r3)) :
    Calls Try.prog 15 #[.slice A0 l0.length c0, .int .i64 a1, .int .i64 a2] w fun e w' => e = .returned (.tuple #[.agg #[.int .i64 r1, .int .i64 r2], .bool r3]) ∧ Below w.heap.size w w' := by
  unfold impl_LiveFind.f at h
  have H := Option.bind_eq_some_iff.mp h
  clear h
  obtain ⟨t, ht, h⟩ := H
  have e1 : ∀ args w, (callFunc 42 args).run Try.prog w = .ok (.enter 42 args) w := enters_of Try.func42 (by kernel_rfl) rfl
  have C1 : ∀ W ad, Below w.heap.size w W → W.cell? ad = some (.int .i64 a2) → Calls Try.prog 41 #[.slice A0 l0.length c0, .func (.func 42) #[] #[.pointer ad]] W fun e w' => e = .returned (.int .i64 (idxOf (hits a2) l0)) ∧ Below W.heap.size W w' :=
    fun W ad hW had => IndexFunc_blk _ #[.pointer ad] _ e1 A0 c0 l0 W (Kd.C_below hr0 hW) hc0 (fun x _ W' hW' => find1 x a2 ad W' (pw_cell_below hW' had))
  have C2 : ∀ W, Below w.heap.size w W → Calls Try.prog 38 #[.slice A0 l0.length c0, .int .i64 a1] W fun e w' => e = .returned (.bool t) ∧ Below W.heap.size W w' :=
    fun W hW => impl_areLive.calls k A0 c0 l0 a1 t W (Kd.C_below hr0 hW) hc0 ht
  have hrg := idx_range (hits a2) l0
  generalize idxOf (hits a2) l0 = i at C1 h hrg
  have hu := Try.underlying37
  have hn : l0.length ≤ 9223372036854775807 := hr0.2.1
  have HR := Aside0.mk hr0
  clear hr0 ht e1
  have hB1 : Below w.heap.size w (w.alloc (.cells #[.int .i64 a2] 3)) := (Below.refl _ _).alloc (Nat.le_refl _) _
  have hB2 : Below w.heap.size w ((w.alloc (.cells #[.int .i64 a2] 3)).alloc (.cells #[.int .i64 0, .int .i64 0] 37)) := hB1.alloc hB1.size _
  have hcell : ((w.alloc (.cells #[.int .i64 a2] 3)).alloc (.cells #[.int .i64 0, .int .i64 0] 37)).cell? ⟨w.heap.size, 0, none⟩ = some (.int .i64 a2) := by simp
  have hblk : ((w.alloc (.cells #[.int .i64 a2] 3)).alloc (.cells #[.int .i64 0, .int .i64 0] 37)).heap[w.heap.size + 1]? = some (.cells #[.int .i64 0, .int .i64 0] 37) := by
    have := blk_new (w.alloc (.cells #[.int .i64 a2] 3)) (.cells #[.int .i64 0, .int .i64 0] 37)
    rw [World.size_alloc] at this
    exact this
  have hge : w.heap.size ≤ w.heap.size + 1 := Nat.le_succ _
  by_cases c1 : t = true
  · rw [if_pos c1] at h
    subst c1
    by_cases c2 : i < 0
    · rw [if_pos c2] at h
      cases h
      have x3 : ∀ W, Below w.heap.size w W → True := fun _ _ => trivial
      have x4 := x3
      go_enter Try.func15, Try.ntmps15
      go_wp2_with (first | (go_at_call 41; refine (C1 _ _ hB2 hcell).mono ?_; rintro e w' ⟨rfl, hb1⟩; have q1 := blk_below hblk hb1; have hB3 := below_step hB2 hb1) | (go_at_call 38; refine (C2 _ hB3).mono ?_; rintro e w'' ⟨rfl, hb2⟩; have q2 := blk_below q1 hb2; have hB4 := below_step hB3 hb2; have z0 := blk_frozen q2 0; have z1 := blk_frozen q2 1; have y0 : w''.cell? ⟨w.heap.size + 1, 0, none⟩ = some (.int .i64 0) := (by simp [World.cell?, q2]); have y1 : w''.cell? ⟨w.heap.size + 1, 1, none⟩ = some (.int .i64 0) := (by simp [World.cell?, q2]); have hx3 := x3 _ hB4; have hx4 := x4 _ hB4))
      refine bodyPost_ret (results_ct rfl _ _ (w.heap.size + 1) 37 #[.int .i64 (0), .int .i64 (0)] (0, 0) _ rfl (by (with_reducible repeat (first | refine blk_drewN ?_ _ | refine blk_drew ?_ | refine blk_alloc ?_ _)); refine blk_put (cs := #[.int .i64 (0), .int .i64 0]) ?_ 1 _ rfl; (with_reducible repeat (first | refine blk_drewN ?_ _ | refine blk_drew ?_ | refine blk_alloc ?_ _)); refine blk_put (cs := #[.int .i64 0, .int .i64 0]) ?_ 0 _ rfl; (with_reducible repeat (first | refine blk_drewN ?_ _ | refine blk_drew ?_ | refine blk_alloc ?_ _)); exact q2) Try.underlying37 rfl (by kernel_rfl)) rfl ?_
      exact ⟨rfl, below_set (below_set hB4 hge) hge⟩
    · rw [if_neg c2] at h
      cases h
      obtain ⟨ad, rfl, hx, hx2⟩ := at_T37 HR.out i (by omega) hrg.2
      have x3 : ∀ W, Below w.heap.size w W → W.cell? _ = _ := fun W hW => pw_cell_below hW hx
      have x4 : ∀ W, Below w.heap.size w W → W.cell? _ = _ := fun W hW => pw_cell_below hW hx2
      generalize (rd_T37 l0 i).f0 = v0 at hx x3 ⊢
      generalize (rd_T37 l0 i).f1 = v1 at hx2 x4 ⊢
      have c3 : 0 ≤ i := by omega
      have c4 := hrg.2
      go_enter Try.func15, Try.ntmps15
      go_wp2_with (first | (go_at_call 41; refine (C1 _ _ hB2 hcell).mono ?_; rintro e w' ⟨rfl, hb1⟩; have q1 := blk_below hblk hb1; have hB3 := below_step hB2 hb1) | (go_at_call 38; refine (C2 _ hB3).mono ?_; rintro e w'' ⟨rfl, hb2⟩; have q2 := blk_below q1 hb2; have hB4 := below_step hB3 hb2; have z0 := blk_frozen q2 0; have z1 := blk_frozen q2 1; have y0 : w''.cell? ⟨w.heap.size + 1, 0, none⟩ = some (.int .i64 0) := (by simp [World.cell?, q2]); have y1 : w''.cell? ⟨w.heap.size + 1, 1, none⟩ = some (.int .i64 0) := (by simp [World.cell?, q2]); have hx3 := x3 _ hB4; have hx4 := x4 _ hB4))
      refine bodyPost_ret (results_ct rfl _ _ (w.heap.size + 1) 37 #[.int .i64 (v0), .int .i64 (v1)] (0, 0) _ rfl (by (with_reducible repeat (first | refine blk_drewN ?_ _ | refine blk_drew ?_ | refine blk_alloc ?_ _)); refine blk_put (cs := #[.int .i64 (v0), .int .i64 0]) ?_ 1 _ rfl; (with_reducible repeat (first | refine blk_drewN ?_ _ | refine blk_drew ?_ | refine blk_alloc ?_ _)); refine blk_put (cs := #[.int .i64 0, .int .i64 0]) ?_ 0 _ rfl; (with_reducible repeat (first | refine blk_drewN ?_ _ | refine blk_drew ?_ | refine blk_alloc ?_ _)); exact q2) Try.underlying37 rfl (by kernel_rfl)) rfl ?_
      exact ⟨rfl, below_set (below_set hB4 hge) hge⟩
  · rw [if_neg c1] at h
    cases h
    replace c1 := Bool.eq_false_iff.mpr c1
    subst c1
    have x3 : ∀ W, Below w.heap.size w W → True := fun _ _ => trivial
    have x4 := x3
    go_enter Try.func15, Try.ntmps15
    go_wp2_with (first | (go_at_call 41; refine (C1 _ _ hB2 hcell).mono ?_; rintro e w' ⟨rfl, hb1⟩; have q1 := blk_below hblk hb1; have hB3 := below_step hB2 hb1) | (go_at_call 38; refine (C2 _ hB3).mono ?_; rintro e w'' ⟨rfl, hb2⟩; have q2 := blk_below q1 hb2; have hB4 := below_step hB3 hb2; have z0 := blk_frozen q2 0; have z1 := blk_frozen q2 1; have y0 : w''.cell? ⟨w.heap.size + 1, 0, none⟩ = some (.int .i64 0) := (by simp [World.cell?, q2]); have y1 : w''.cell? ⟨w.heap.size + 1, 1, none⟩ = some (.int .i64 0) := (by simp [World.cell?, q2]); have hx3 := x3 _ hB4; have hx4 := x4 _ hB4))
    refine bodyPost_ret (results_ct rfl _ _ (w.heap.size + 1) 37 #[.int .i64 (0), .int .i64 (0)] (0, 0) _ rfl (by (with_reducible repeat (first | refine blk_drewN ?_ _ | refine blk_drew ?_ | refine blk_alloc ?_ _)); refine blk_put (cs := #[.int .i64 (0), .int .i64 0]) ?_ 1 _ rfl; (with_reducible repeat (first | refine blk_drewN ?_ _ | refine blk_drew ?_ | refine blk_alloc ?_ _)); refine blk_put (cs := #[.int .i64 0, .int .i64 0]) ?_ 0 _ rfl; (with_reducible repeat (first | refine blk_drewN ?_ _ | refine blk_drew ?_ | refine blk_alloc ?_ _)); exact q2) Try.underlying37 rfl (by kernel_rfl)) rfl ?_
    exact ⟨rfl, below_set (below_set hB4 hge) hge⟩
end Go.Proofs.Ytobboonnfocalaa.PB1
