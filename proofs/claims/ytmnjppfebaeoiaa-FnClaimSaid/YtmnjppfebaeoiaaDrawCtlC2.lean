/- The draw of a control word comes to a word of 32 bits. Conditions: none. -/
import Derived.Test.YtmnjppfebaeoiaaDrawC2
import Derived.Test.YtmnjppfebaeoiaaOnesPureC2
import Derived.Test.YtmnjppfebaeoiaaPC2x1
import Derived.Test.YtmnjppfebaeoiaaPC2x4
import Derived.Test.YtmnjppfebaeoiaaPC2x0
set_option linter.unusedVariables false
set_option linter.unusedSimpArgs false
namespace Go.Proofs.Ytmnjppfebaeoiaa.Base
open Go.RowKit Go.Proofs.Ytmnjppfebaeoiaa.PC2 Go.Proofs.YtmnjppfebaeoiaaW.PrintWords Go.Proofs.YtmnjppfebaeoiaaW.PrintLast Go.Proofs.YtmnjppfebaeoiaaW.PrintMore

theorem once_ok {l : List Int} (hl : Bytes l) {B a s : Int} (h : Cur B a s) (hB : B ≤ 4000000000000000000) (n : Int) (hn : n ≤ 4294967296) :
    ∃ r a' s', spec_l01Cur_once.f l a s n = some (r, a', s') ∧ Cur (B + 1) a' s' := by
  unfold spec_l01Cur_once.f
  obtain ⟨r1, a1, s1, e1, k1, _⟩ := pick_ok hl h hB n hn
  rw [e1, Option.bind_some]
  exact ⟨_, _, _, rfl, k1⟩
theorem wide_ok {l : List Int} (hl : Bytes l) {B a s : Int} (h : Cur B a s) (hB : B ≤ 3000000000000000000) (n : Int) (hn : 0 < n ∧ n ≤ 4294967296) :
    ∃ r a' s', spec_l01Cur_wide.f l a s n = some (r, a', s') ∧ Cur (B + 3) a' s' ∧ 0 ≤ r ∧ r < n := by
  unfold spec_l01Cur_wide.f
  obtain ⟨r1, a1, s1, e1, k1, g1, f1, _⟩ := pick_ok hl h (by omega) 256 (by omega)
  rw [e1, Option.bind_some]
  obtain ⟨r2, a2, s2, e2, k2, g2, f2, _⟩ := pick_ok hl k1 (by omega) 256 (by omega)
  rw [e2, Option.bind_some]
  obtain ⟨r3, a3, s3, e3, k3, g3, f3, _⟩ := pick_ok hl k2 (by omega) 256 (by omega)
  rw [e3, Option.bind_some, if_neg (by omega)]
  have f1 := f1 (by omega)
  have f2 := f2 (by omega)
  have f3 := f3 (by omega)
  dsimp only
  rw [w64 (n := 65536 * r1) (by omega) (by omega), w64 (n := 256 * r2) (by omega) (by omega), w64 (n := 65536 * r1 + 256 * r2) (by omega) (by omega), w64 (by omega) (by omega), Int.tmod_eq_emod_of_nonneg (by omega)]
  exact ⟨_, _, _, rfl, k3.mono (by omega), Int.emod_nonneg _ (by omega), Int.emod_lt_of_pos _ hn.1⟩
theorem pow_at (c : Int) (hc : 0 ≤ c ∧ c ≤ 4) (m : Nat) : spec_l04Pow.f (m + 20) (perPage c) = some (pageMax c) := by
  unfold spec_l04Pow.f
  rcases class_cases hc with rfl | rfl | rfl | rfl | rfl <;> simp [perPage, pageMax, spec_l04Pow.l0, wrap64]
theorem pageMax_range (c : Int) : 2 ≤ pageMax c ∧ pageMax c ≤ 65536 := by
  unfold pageMax
  (repeat' split) <;> omega
theorem ctl_ok {l : List Int} (hl : Bytes l) {B a s : Int} (h : Cur B a s) (hB : B ≤ 2000000000000000000) (k : Nat) (hk : 30 < k) :
    ∃ r1 r2 r3 r4 a' s', spec_l01Cur_ctl.f k l a s = some (r1, r2, r3, r4, a', s') ∧ Cur (B + 10) a' s' ∧ 0 ≤ r3 ∧ r3 < 4294967296 := by
  obtain ⟨k, rfl⟩ : ∃ m, k = m + 20 := ⟨k - 20, by omega⟩
  unfold spec_l01Cur_ctl.f
  obtain ⟨q1, a1, s1, e1, k1, g1, f1, _⟩ := pick_ok hl h (by omega) 4 (by omega)
  rw [e1, Option.bind_some]
  dsimp only
  by_cases c1 : q1 = 1
  · rw [if_pos c1]
    obtain ⟨q2, a2, s2, e2, k2, g2, f2, _⟩ := pick_ok hl k1 (by omega) 5 (by omega)
    rw [e2, Option.bind_some]
    obtain ⟨q3, a3, s3, e3, k3, g3, f3, _⟩ := pick_ok hl k2 (by omega) 65535 (by omega)
    have f2 := f2 (by omega)
    have hc : 0 ≤ q2 ∧ q2 ≤ 4 := by omega
    have hp := pageMax_range q2
    have ep := pow_at q2 hc k
    rw [e3, Option.bind_some]
    dsimp only
    rw [spec_perPage q2 _ (by omega), Option.bind_some, ep, Option.bind_some, w64 (n := pageMax q2 - 1) (by omega) (by omega), if_neg (by omega)]
    obtain ⟨q4, a4, s4, e4, k4⟩ := once_ok hl k3 (by omega) 2 (by omega)
    rw [e4, Option.bind_some]
    dsimp only
    by_cases c2 : q4 = true
    · rw [if_pos c2]
      obtain ⟨q5, a5, s5, e5, k5, g5, f5⟩ := wide_ok hl k4 (by omega) 65535 (by omega)
      rw [e5, Option.bind_some, Option.bind_some, ep, Option.bind_some, w64 (n := pageMax q2 - 1) (by omega) (by omega), if_neg (by omega)]
      exact ⟨_, _, _, _, _, _, rfl, k5.mono (by omega), Int.emod_nonneg _ (by omega), Int.emod_lt_of_pos _ (by omega)⟩
    · rw [if_neg c2]
      exact ⟨_, _, _, _, _, _, rfl, k4.mono (by omega), Int.emod_nonneg _ (by omega), Int.emod_lt_of_pos _ (by omega)⟩
  · rw [if_neg c1]
    by_cases c2 : q1 = 2
    · rw [if_pos c2]
      obtain ⟨q2, a2, s2, e2, k2, g2, f2, _⟩ := pick_ok hl k1 (by omega) 4 (by omega)
      rw [e2, Option.bind_some]
      exact ⟨_, _, _, _, _, _, rfl, k2.mono (by omega), by omega, by omega⟩
    · rw [if_neg c2]
      exact ⟨_, _, _, _, _, _, rfl, k1.mono (by omega), by omega, by omega⟩
theorem word_ok {l : List Int} (hl : Bytes l) {B a s : Int} (h : Cur B a s) (hB : B ≤ 2000000000000000000) :
    ∃ r a' s', spec_l01Cur_word.f l a s = some (r, a', s') ∧ Cur (B + 5) a' s' ∧ 0 ≤ r ∧ r ≤ 4294967295 := by
  unfold spec_l01Cur_word.f
  obtain ⟨q1, a1, s1, e1, k1, g1, f1, _⟩ := pick_ok hl h (by omega) 256 (by omega)
  rw [e1, Option.bind_some]
  obtain ⟨q2, a2, s2, e2, k2, g2, f2⟩ := wide_ok hl k1 (by omega) 16777216 (by omega)
  rw [e2, Option.bind_some, Option.bind_some]
  obtain ⟨q3, a3, s3, e3, k3, g3, f3, _⟩ := pick_ok hl k2 (by omega) 7 (by omega)
  rw [e3, Option.bind_some]
  have f3 := f3 (by omega)
  dsimp only
  rw [if_pos g3, if_pos (by simpa using f3)]
  have hm := rd_mem (xs := [0, 1, 4294967295, 65535, q1 % 4294967296, q2 % 4294967296 * 255 % 4294967296, 2147483648]) g3 (by simpa using f3)
  refine ⟨_, _, _, rfl, k3.mono (by omega), ?_⟩
  generalize rd [0, 1, 4294967295, 65535, q1 % 4294967296, q2 % 4294967296 * 255 % 4294967296, 2147483648] q3 = z at hm ⊢
  simp only [List.mem_cons, List.not_mem_nil, or_false] at hm
  omega
theorem ctlWord_ok {l : List Int} (hl : Bytes l) {B a s : Int} (h : Cur B a s) (hB : B ≤ 1000000000000000000) (k : Nat) (hk : 100 < k) :
    ∃ r a' s', spec_l01Cur_ctlWord.f k l a s = some (r, a', s') ∧ Cur (B + 20) a' s' ∧ 0 ≤ r ∧ r ≤ 4294967295 := by
  unfold spec_l01Cur_ctlWord.f
  obtain ⟨q1, q2, q3, q4, a1, s1, e1, k1, g1, f1⟩ := ctl_ok hl h (by omega) k (by omega)
  rw [e1, Option.bind_some]
  dsimp only
  rw [spec_pack q1 q2 q3 q4 g1 f1 k (by omega), Option.bind_some]
  obtain ⟨q5, a2, s2, e2, k2⟩ := once_ok hl k1 (by omega) 12 (by omega)
  rw [e2, Option.bind_some]
  dsimp only
  by_cases c : q5 = true
  · rw [if_pos c]
    obtain ⟨q6, a3, s3, e3, k3, g3⟩ := word_ok hl k2 (by omega)
    rw [e3, Option.bind_some]
    exact ⟨_, _, _, rfl, k3.mono (by omega), g3⟩
  · rw [if_neg c]
    refine ⟨_, _, _, rfl, k2.mono (by omega), ?_⟩
    by_cases ho : ctlOk q1 q2 q3 q4 = true
    · rw [if_pos ho]
      exact word_range _ _ _ _ g1 ho
    · rw [if_neg ho]
      exact ⟨by decide, by decide⟩
end Go.Proofs.Ytmnjppfebaeoiaa.Base
