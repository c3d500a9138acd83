/- WarpStart is a chunk of the heap, and the warps 0 and 1 start at one chunk exactly where there are 1 or 5 chunks. Conditions: none. -/
import Derived.Test.YtokgcjkdbhnlbaaDraw
import Derived.Test.YtokgcjkdbhnlbaaPA1x1
import Derived.Test.YtokgcjkdbhnlbaaPA1x3
import Derived.Test.YtokgcjkdbhnlbaaPA1x4
import Derived.Test.YtokgcjkdbhnlbaaPA1x5
import Derived.Test.YtokgcjkdbhnlbaaPA1x6
set_option linter.unusedSimpArgs false
namespace Go.Proofs.Ytokgcjkdbhnlbaa.Pure
open Go.RowKit Go.Proofs.Ytokgcjkdbhnlbaa.Base Go.Proofs.Ytokgcjkdbhnlbaa.PA1 Go.Proofs.YtokgcjkdbhnlbaaW.PrintWords Go.Proofs.YtokgcjkdbhnlbaaW.PrintLast

theorem start_eq (a b c : Int) : spec_WarpStart.f a b c = impl_WarpStart.f a b c := by
  unfold spec_WarpStart.f impl_WarpStart.f impl_isClass.f spec_l04Class.f
  simp only [impl_within.f]
  by_cases h1 : a < 0
  · simp [h1, show ¬ (a ≥ 0) by omega]
  by_cases h2 : a > 3
  · simp [h1, h2, show a ≥ 0 by omega, show ¬ (a ≤ 3) by omega]
  by_cases h3 : b ≥ 0
  · by_cases h4 : b < 5
    · by_cases h5 : c < 1
      · simp [h1, h2, h3, h4, h5, show a ≥ 0 by omega, show a ≤ 3 by omega, show b ≤ 4 by omega, show ¬ (c ≥ 1) by omega]
      · by_cases h6 : c > 16
        · simp [h1, h2, h3, h4, h5, h6, show a ≥ 0 by omega, show a ≤ 3 by omega, show b ≤ 4 by omega, show c ≥ 1 by omega, show ¬ (c ≤ 16) by omega]
        · simp [h1, h2, h3, h4, h5, h6, show a ≥ 0 by omega, show a ≤ 3 by omega, show b ≤ 4 by omega, show c ≥ 1 by omega, show c ≤ 16 by omega, show ¬ (c = 0) by omega]
    · simp [h1, h2, h3, h4, show a ≥ 0 by omega, show a ≤ 3 by omega, show ¬ (b ≤ 4) by omega]
  · simp [h1, h2, h3, show a ≥ 0 by omega, show a ≤ 3 by omega]

theorem start_val (a b c : Int) : impl_WarpStart.f a b c = some (if 0 ≤ a ∧ a ≤ 3 ∧ 0 ≤ b ∧ b ≤ 4 ∧ 1 ≤ c ∧ c ≤ 16 then (5 * a + 3 * b) % c else -1) := by
  unfold impl_WarpStart.f impl_isClass.f
  simp only [impl_within.f]
  by_cases h : 0 ≤ a ∧ a ≤ 3 ∧ 0 ≤ b ∧ b ≤ 4 ∧ 1 ≤ c ∧ c ≤ 16
  · rw [if_pos h]
    obtain ⟨h1, h2, h3, h4, h5, h6⟩ := h
    rw [w64 (n := 5 * a) (by omega) (by omega), w64 (n := 3 * b) (by omega) (by omega), w64 (by omega) (by omega), Int.tmod_eq_emod_of_nonneg (by omega)]
    simp [show a ≥ 0 by omega, h2, show b ≥ 0 by omega, h4, show c ≥ 1 by omega, h6, show ¬ (c = 0) by omega]
  · rw [if_neg h]
    by_cases h1 : a ≥ 0
    · by_cases h2 : a ≤ 3
      · by_cases h3 : b ≥ 0
        · by_cases h4 : b ≤ 4
          · by_cases h5 : c ≥ 1
            · by_cases h6 : c ≤ 16
              · omega
              · simp [h1, h2, h3, h4, h5, h6]
            · simp [h1, h2, h3, h4, h5]
          · simp [h1, h2, h3, h4]
        · simp [h1, h2, h3]
      · simp [h1, h2]
    · simp [h1]

theorem drawn {l : List Int} (hl : Bytes l) : ∃ a b c, spec_DrawWarpStart.f l = some (a, b, c) := by
  unfold spec_DrawWarpStart.f
  obtain ⟨s, e0, k0⟩ := open_ok hl
  rw [e0]; simp only [Option.bind_some]
  obtain ⟨r1, a1, s1, e1, k1, g1, g2, _⟩ := pick_ok hl k0 (by omega) 5 (by omega)
  rw [e1]; simp only [Option.bind_some]
  obtain ⟨r2, a2, s2, e2, k2, g3, g4, _⟩ := pick_ok hl k1 (by omega) 4 (by omega)
  rw [e2]; simp only [Option.bind_some]
  obtain ⟨r3, a3, s3, e3, k3, _⟩ := raw_ok hl k2 (by omega)
  rw [e3]; simp only [Option.bind_some]
  obtain ⟨r4, a4, s4, e4, k4, g5, g6, _⟩ := pick_ok hl k3 (by omega) 3 (by omega)
  rw [e4]; simp only [Option.bind_some]
  rw [if_pos g5, if_pos (by have := g6 (by omega); simpa using this)]
  obtain ⟨r5, a5, s5, e5, k5, _⟩ := pick_ok hl k4 (by omega) 6 (by omega)
  rw [e5]; simp only [Option.bind_some]
  obtain ⟨r6, a6, s6, e6, k6, _⟩ := pick_ok hl k5 (by omega) 5 (by omega)
  rw [e6]; simp only [Option.bind_some]
  obtain ⟨r7, a7, s7, e7, k7, _⟩ := raw_ok hl k6 (by omega)
  rw [e7]; simp only [Option.bind_some]
  obtain ⟨r8, a8, s8, e8, k8, g7, g8, _⟩ := pick_ok hl k7 (by omega) 3 (by omega)
  rw [e8]; simp only [Option.bind_some]
  rw [if_pos g7, if_pos (by have := g8 (by omega); simpa using this)]
  obtain ⟨r9, a9, s9, e9, k9, _⟩ := pick_ok hl k8 (by omega) 16 (by omega)
  rw [e9]; simp only [Option.bind_some]
  obtain ⟨r10, a10, s10, e10, k10, _⟩ := raw_ok hl k9 (by omega)
  rw [e10]; simp only [Option.bind_some]
  obtain ⟨r11, a11, s11, e11, k11, g9, g10, _⟩ := pick_ok hl k10 (by omega) 4 (by omega)
  rw [e11]; simp only [Option.bind_some]
  rw [if_pos g9, if_pos (by have := g10 (by omega); simpa using this)]
  exact ⟨_, _, _, rfl⟩

theorem FnStarts : laws_FnStarts.Pure := by
  intro l hl hl2 hw
  refine ⟨1, ?_⟩
  unfold laws_FnStarts.f
  rcases big_or hw with h | ⟨h, hb⟩
  · rw [h]; rfl
  rw [h]
  obtain ⟨a, b, c, hd⟩ := drawn hb
  simp only [Option.bind_some]
  rw [if_neg (by simp), hd]
  simp only [Option.bind_some]
  rw [start_eq]
  by_cases hh : 0 ≤ a ∧ a ≤ 3 ∧ 0 ≤ b ∧ b ≤ 4 ∧ 1 ≤ c ∧ c ≤ 16
  · have e := start_val a b c
    rw [if_pos hh] at e
    obtain ⟨h1, h2, h3, h4, h5, h6⟩ := hh
    have hm : 0 ≤ (5 * a + 3 * b) % c ∧ (5 * a + 3 * b) % c < c := ⟨Int.emod_nonneg _ (by omega), Int.emod_lt_of_pos _ (by omega)⟩
    generalize (5 * a + 3 * b) % c = m at e hm
    have e0 := start_val 0 b c
    rw [if_pos ⟨by omega, by omega, h3, h4, h5, h6⟩] at e0
    have e1 := start_val 1 b c
    rw [if_pos ⟨by omega, by omega, h3, h4, h5, h6⟩] at e1
    simp only [e, e0, e1, Option.bind_some, if_true, laws_FnStarts.j0]
    rw [if_neg (show ¬ (decide (m < 0) = true) by simp; omega), if_pos hm.2]
    have hc : c = 1 ∨ c = 2 ∨ c = 3 ∨ c = 4 ∨ c = 5 ∨ c = 6 ∨ c = 7 ∨ c = 8 ∨ c = 9 ∨ c = 10 ∨ c = 11 ∨ c = 12 ∨ c = 13 ∨ c = 14 ∨ c = 15 ∨ c = 16 := by omega
    rcases hc with rfl | rfl | rfl | rfl | rfl | rfl | rfl | rfl | rfl | rfl | rfl | rfl | rfl | rfl | rfl | rfl <;> simp <;> omega
  · have e := start_val a b c
    rw [if_neg hh] at e
    simp [e, start_eq, laws_FnStarts.j0]

end Go.Proofs.Ytokgcjkdbhnlbaa.Pure
