/- The program's cut of a block: the list without the block that starts at the word. Conditions: none. -/
import Derived.Test.YtobboonnfocalaaPB1x13
import Derived.Test.YtobboonnfocalaaSlBlk
import Derived.Test.YtobboonnfocalaaCloneBlk
import Derived.Test.YtobboonnfocalaaDelBlk
set_option linter.unusedVariables false
set_option linter.unusedSimpArgs false
namespace Go.Proofs.Ytobboonnfocalaa.PB1
open Go.RowKit Go.Proofs.YtobboonnfocalaaW.PrintWords Go.Proofs.YtobboonnfocalaaW.PrintLast Go.Proofs.YtobboonnfocalaaW.PrintMore Go.Proofs.Ytobboonnfocalaa.Sl

/-- The block starts at the word. -/
def starts (t : Int) (b : S37) : Bool := b.f0 == t
theorem cut1 (b : S37) (t : Int) (ad : Addr) (w : World) (h : w.cell? ad = some (.int .i64 t)) : Calls Try.prog 43 #[encB b, .pointer ad] w fun e w' => e = .returned (.bool (starts t b)) ∧ Below w.heap.size w w' := by
  have hu := Try.underlying37
  have hB : Below w.heap.size w (w.alloc (.cells #[.int .i64 b.f0, .int .i64 b.f1] 37)) := (Below.refl _ _).alloc (Nat.le_refl _) _
  have h2 := pw_cell_below hB h
  unfold encB starts
  go_enter Try.func43, Try.ntmps43
  go_wp2
  go_ret
  exact ⟨rfl, hB⟩
theorem idx_parts (p : S37 → Bool) (l : List S37) (h : ¬ idxOf p l < 0) : ∃ a x b, l = a ++ x :: b ∧ idxOf p l = (a.length : Int) := by
  have key : ∀ (l : List S37) (i : Nat), idxFrom p i l = -1 ∨ ∃ a x b, l = a ++ x :: b ∧ idxFrom p i l = (i + a.length : Nat) := by
    intro l
    induction l with
    | nil => intro i; exact .inl rfl
    | cons y r ih =>
      intro i
      simp only [idxFrom]
      by_cases hp : p y = true
      · rw [if_pos hp]
        exact .inr ⟨[], y, r, rfl, by simp⟩
      · rw [if_neg hp]
        rcases ih (i + 1) with h | ⟨a, x, b, h1, h2⟩
        · exact .inl h
        · exact .inr ⟨y :: a, x, b, by rw [h1]; rfl, by rw [h2, List.length_cons]; omega⟩
  unfold idxOf at h ⊢
  rcases key l 0 with h1 | ⟨a, x, b, h1, h2⟩
  · exact absurd (by rw [h1]; decide) h
  · exact ⟨a, x, b, h1, by rw [h2, Nat.zero_add]⟩

/-! ### impl_LiveCut: function 17 -/
def impl_LiveCut.f (k : Nat) (l0 : List S37) (a1 : Int) (a2 : Int) : Option (List S37 × Int × Bool) :=
  if l0.length ≤ 2000000 then (if idxOf (starts a2) l0 < 0 then some ([], 0, false) else (impl_areLive.f k l0 a1).bind fun t => (if t = true then some (l0.take (idxOf (starts a2) l0).toNat ++ l0.drop ((idxOf (starts a2) l0).toNat + 1), (rd_T37 l0 (idxOf (starts a2) l0)).f1, true) else some ([], 0, false))) else none
theorem impl_LiveCut.mono : ∀ a0 a1 a2 k, LeO (impl_LiveCut.f k a0 a1 a2) (impl_LiveCut.f (k + 1) a0 a1 a2) := by
  intro a0 a1 a2 k
  unfold impl_LiveCut.f
  exact LeO.ite (LeO.ite (LeO.refl _) (LeO.bind (impl_areLive.mono _ _ _) (fun _ => LeO.refl _))) (LeO.refl _)
set_option maxHeartbeats 4000000 in
set_option maxRecDepth 100000 in
theorem impl_LiveCut.calls (k : Nat) (A0 : Option Addr) (c0 : Nat) (l0 : List S37) (a1 : Int) (a2 : Int) (r1 : List S37) (r2 : Int) (r3 : Bool) (w : World) (hr0 : Kd.C k37 w A0 l0.length l0) (hc0 : l0.length ≤ c0) (h : impl_LiveCut.f k l0 a1 a2 = some (r1, r2, r3)) :
    Calls Try.prog 17 #[.slice A0 l0.length c0, .int .i64 a1, .int .i64 a2] w fun e w' => ∃ v0_ : Value, e = .returned (.tuple #[v0_, .int .i64 r2, .bool r3]) ∧ Kd.R k37 37 w' w.heap.size (fun _ => True) v0_ r1 ∧ Below w.heap.size w w' := by
  unfold impl_LiveCut.f at h
  by_cases hlen : l0.length ≤ 2000000
  · rw [if_pos hlen] at h
    have e1 : ∀ args w, (callFunc 43 args).run Try.prog w = .ok (.enter 43 args) w := enters_of Try.func43 (by kernel_rfl) rfl
    have C1 : ∀ W ad, Below w.heap.size w W → W.cell? ad = some (.int .i64 a2) → Calls Try.prog 41 #[.slice A0 l0.length c0, .func (.func 43) #[] #[.pointer ad]] W fun e w' => e = .returned (.int .i64 (idxOf (starts a2) l0)) ∧ Below W.heap.size W w' :=
      fun W ad hW had => IndexFunc_blk _ #[.pointer ad] _ e1 A0 c0 l0 W (Kd.C_below hr0 hW) hc0 (fun x _ W' hW' => cut1 x a2 ad W' (pw_cell_below hW' had))
    have hu := Try.underlying37
    have hB1 : Below w.heap.size w (w.alloc (.cells #[.int .i64 a2] 3)) := (Below.refl _ _).alloc (Nat.le_refl _) _
    have hcell : (w.alloc (.cells #[.int .i64 a2] 3)).cell? ⟨w.heap.size, 0, none⟩ = some (.int .i64 a2) := by simp
    by_cases c1 : idxOf (starts a2) l0 < 0
    · rw [if_pos c1] at h
      cases h
      generalize idxOf (starts a2) l0 = i at C1 c1
      clear hr0 e1
      go_enter Try.func17, Try.ntmps17
      go_wp2_with (first | (go_at_call 41; refine (C1 _ _ hB1 hcell).mono ?_; rintro e w' ⟨rfl, hb1⟩; have hB3 := below_step hB1 hb1))
      go_ret3
      exact ⟨_, rfl, Kd.R_nil _ _ _ _ _, hB3⟩
    · rw [if_neg c1] at h
      obtain ⟨t, ht, h⟩ := Option.bind_eq_some_iff.mp h
      have C2 : ∀ W, Below w.heap.size w W → Calls Try.prog 38 #[.slice A0 l0.length c0, .int .i64 a1] W fun e w' => e = .returned (.bool t) ∧ Below W.heap.size W w' :=
        fun W hW => impl_areLive.calls k A0 c0 l0 a1 t W (Kd.C_below hr0 hW) hc0 ht
      by_cases c2 : t = true
      · rw [if_pos c2] at h
        subst c2
        cases h
        have C3 : ∀ W, Below w.heap.size w W → Calls Try.prog 40 #[.slice A0 l0.length c0] W fun e w' => ∃ v, e = .returned v ∧ Kd.R k37 37 w' W.heap.size (fun _ => True) v l0 ∧ Below W.heap.size W w' :=
          fun W hW => Clone_blk A0 c0 l0 W (Kd.C_below hr0 hW) hlen
        obtain ⟨a, x, b, hl0, hi⟩ := idx_parts _ _ c1
        have hj0 : (0 : Int) ≤ (a.length : Int) := by omega
        have hjl : a.length < l0.length := by rw [hl0]; simp
        have C4 : ∀ W B v, Kd.R k37 37 W B (fun _ => True) v l0 → Calls Try.prog 44 #[v, .int .i64 (a.length : Int), .int .i64 ((a.length : Int) + 1)] W fun e w' => ∃ v', e = .returned v' ∧ Kd.R k37 37 w' B (fun _ => True) v' (l0.take a.length ++ l0.drop (a.length + 1)) ∧ Below B W w' := by
          intro W B v hv
          rw [hl0] at hv
          have := Delete_blk W B v a b x hv (by rw [← hl0]; exact hlen)
          rw [hl0, List.take_left, List.drop_append, List.drop_eq_nil_of_le (Nat.le_succ _), List.nil_append, show a.length + 1 - a.length = 1 by omega, List.drop_one, List.tail_cons]
          exact this
        rw [hi] at C1 ⊢
        simp only [Int.toNat_natCast]
        obtain ⟨ad, rfl, hx, hx2⟩ := at_T37 hr0 (a.length : Int) hj0 (by omega)
        simp only [Int.toNat_natCast] at hx2
        generalize (rd_T37 l0 (a.length : Int)).f1 = v1 at hx2 ⊢
        have x4 : ∀ W, Below w.heap.size w W → W.cell? _ = _ := fun W hW => pw_cell_below hW hx2
        generalize hout : l0.take a.length ++ l0.drop (a.length + 1) = out at C4 ⊢
        have hn : l0.length ≤ 9223372036854775807 := by omega
        generalize a.length = j at C1 C4 x4 hjl hj0 ⊢
        have hjz : (j : Int) < (l0.length : Int) := by omega
        have hw1 : IntKind.i64.wrap ((j : Int) + 1) = (j : Int) + 1 := by rw [IntKind.wrap_i64]; omega
        have mixed : Try.prog.follows .mixedOrders = true := by kernel_rfl
        clear hr0 e1 hl0 hi c1 hx hx2 ht hout x b a
        go_enter Try.func17, Try.ntmps17
        go_wp2_with (first | (go_at_call 41; refine (C1 _ _ hB1 hcell).mono ?_; rintro e w' ⟨rfl, hb1⟩; have hB3 := below_step hB1 hb1) | (go_at_call 38; refine (C2 _ hB3).mono ?_; rintro e w'' ⟨rfl, hb2⟩; have hB4 := below_step hB3 hb2; have hx4 := x4 _ hB4))
        have hB4d := below_drew hB4
        have hx5 := x4 _ hB4d
        go_region_law_o (first | (go_simp; go_at_call 40; refine (C3 _ hB4d).mono ?_; rintro e W3 ⟨v3, rfl, hv3, hb3⟩; have hB5 := below_step hB4d hb3; have hx6 := x4 _ hB5) | (go_simp; go_at_call 44; refine (C4 _ _ _ hv3).mono ?_; rintro e W4 ⟨v4, rfl, hv4, hb4⟩; have hB6 := below_from hB5 hB4d.size hb4; have hx7 := x4 _ hB6))
        all_goals (try go_wp2)
        all_goals (go_ret3; exact ⟨v4, rfl, Kd.R_lower hv4 hB4d.size, hB6⟩)
      · rw [if_neg c2] at h
        cases h
        replace c2 := Bool.eq_false_iff.mpr c2
        subst c2
        obtain ⟨a, x, b, hl0, hi⟩ := idx_parts _ _ c1
        rw [hi] at C1
        clear hr0 e1 hl0 hi c1 ht
        go_enter Try.func17, Try.ntmps17
        go_wp2_with (first | (go_at_call 41; refine (C1 _ _ hB1 hcell).mono ?_; rintro e w' ⟨rfl, hb1⟩; have hB3 := below_step hB1 hb1) | (go_at_call 38; refine (C2 _ hB3).mono ?_; rintro e w'' ⟨rfl, hb2⟩; have hB4 := below_step hB3 hb2))
        go_ret3
        exact ⟨_, rfl, Kd.R_nil _ _ _ _ _, hB4⟩
  · rw [if_neg hlen] at h
    cases h
end Go.Proofs.Ytobboonnfocalaa.PB1
