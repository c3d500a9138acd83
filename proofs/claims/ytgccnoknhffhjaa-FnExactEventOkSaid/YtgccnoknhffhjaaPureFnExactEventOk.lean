/- The program's EventOk returns what the reference's EventOk returns, for every event. Conditions: none. -/
import Derived.Test.YtgccnoknhffhjaaReqPure
import Derived.Test.YtgccnoknhffhjaaPA1x19
import Derived.Test.YtgccnoknhffhjaaPA1x2
import Derived.Test.YtgccnoknhffhjaaPA1x20
import Derived.Test.YtgccnoknhffhjaaPA1x21
import Derived.Test.YtgccnoknhffhjaaPA1x22
set_option linter.unusedSimpArgs false
namespace Go.Proofs.Ytgccnoknhffhjaa.Pure
open Go.RowKit Go.Proofs.Ytgccnoknhffhjaa.Base Go.Proofs.Ytgccnoknhffhjaa.PA1 Go.Proofs.YtgccnoknhffhjaaW.PrintWords Go.Proofs.YtgccnoknhffhjaaW.PrintLast

theorem within_dec (n a b : Int) : impl_within.f n a b = some (decide (a ≤ n ∧ n ≤ b)) := by
  unfold impl_within.f
  by_cases h : n ≥ a
  · rw [if_pos h]; congr 1; rw [decide_eq_decide]; omega
  · rw [if_neg h]; congr 1; symm; rw [decide_eq_false_iff_not]; omega

def eventOk (a b c d : Int) (l : List Int) : Bool :=
  if a = 1 then decide (0 ≤ b ∧ b ≤ 3 ∧ c = 0) && reqOk d l else if a = 2 then decide (0 ≤ b ∧ b ≤ 3 ∧ c = 0 ∧ d = 0 ∧ l.length = 0) else if a = 3 then decide (b = 0 ∧ 1 ≤ c ∧ c ≤ 16 ∧ d = 0 ∧ l.length = 0) else false

theorem spec_event (a b c d : Int) (l : List Int) (k : Nat) (hk : 20 < k) : spec_EventOk.f k a b c d l = some (eventOk a b c d l) := by
  obtain ⟨k, rfl⟩ : ∃ m, k = m + 2 := ⟨k - 2, by omega⟩
  have key : ∀ q, spec_EventOk.j0 (k + 2) q a b c d l = some (if a = 1 then decide (0 ≤ b ∧ b ≤ 3 ∧ c = 0) && reqOk d l else if a = 2 then decide (0 ≤ b ∧ b ≤ 3 ∧ c = 0) && q else if a = 3 then decide (b = 0 ∧ 1 ≤ c ∧ c ≤ 16) && q else false) := by
    intro q
    have key2 : ∀ p, p = decide (0 ≤ b ∧ b ≤ 3) → spec_EventOk.j1 (k + 1) q p a b c d l = some (if a = 1 then decide (0 ≤ b ∧ b ≤ 3 ∧ c = 0) && reqOk d l else if a = 2 then decide (0 ≤ b ∧ b ≤ 3 ∧ c = 0) && q else if a = 3 then decide (b = 0 ∧ 1 ≤ c ∧ c ≤ 16) && q else false) := by
      intro p hp
      simp only [spec_EventOk.j1, spec_req d l k (by omega), Option.bind_some]
      by_cases h1 : a = 1
      · rw [if_pos h1, if_pos h1, hp]
        by_cases h2 : 0 ≤ b ∧ b ≤ 3
        · by_cases h3 : c = 0 <;> simp [h2, h3]
        · simp [h2, show ¬ (0 ≤ b ∧ b ≤ 3 ∧ c = 0) by omega]
      rw [if_neg h1, if_neg h1]
      by_cases h4 : a = 2
      · rw [if_pos h4, if_pos h4, hp]
        by_cases h2 : 0 ≤ b ∧ b ≤ 3
        · by_cases h3 : c = 0 <;> simp [h2, h3]
        · simp [h2, show ¬ (0 ≤ b ∧ b ≤ 3 ∧ c = 0) by omega]
      rw [if_neg h4, if_neg h4]
      by_cases h5 : a = 3
      · rw [if_pos h5, if_pos h5]
        by_cases h6 : b = 0
        · by_cases h7 : c ≥ 1
          · by_cases h8 : c ≤ 16 <;> simp [h6, h7, h8]
          · simp [h6, h7, show ¬ (1 ≤ c) by omega]
        · simp [h6]
      · rw [if_neg h5, if_neg h5]
    simp only [spec_EventOk.j0]
    by_cases hb : b ≥ 0
    · rw [if_pos hb]; exact key2 _ (by rw [decide_eq_decide]; omega)
    · rw [if_neg hb]; exact key2 _ (by symm; rw [decide_eq_false_iff_not]; omega)
  unfold spec_EventOk.f eventOk
  by_cases h0 : d = 0
  · rw [if_pos h0, key]
    congr 1
    by_cases hl : l.length = 0
    · simp [h0, hl]
    · have e : ((l.length : Int) == 0) = false := by rw [beq_eq_false_iff_ne]; omega
      by_cases h1 : a = 1 <;> by_cases h2 : a = 2 <;> simp [h0, hl, e, h1, h2]
  · rw [if_neg h0, key]
    simp [h0]
theorem impl_event (a b c d : Int) (l : List Int) (k : Nat) (hk : 20 < k) : impl_EventOk.f k a b c d l = some (eventOk a b c d l) := by
  obtain ⟨k, rfl⟩ : ∃ m, k = m + 1 := ⟨k - 1, by omega⟩
  have key : ∀ q, impl_isEvent.j0 (k + 1) q a b c d l = some (if a = 1 then decide (0 ≤ b ∧ b ≤ 3 ∧ c = 0) && reqOk d l else if a = 2 then decide (0 ≤ b ∧ b ≤ 3 ∧ c = 0) && q else if a = 3 then decide (b = 0 ∧ 1 ≤ c ∧ c ≤ 16) && q else false) := by
    intro q
    simp only [impl_isEvent.j0, impl_req d l, within_dec, Option.bind_some, decide_eq_true_eq]
    by_cases h1 : a = 1
    · rw [if_pos h1, if_pos h1]
      by_cases h2 : 0 ≤ b ∧ b ≤ 3
      · by_cases h3 : c = 0 <;> simp [h2, h3]
      · simp [h2, show ¬ (0 ≤ b ∧ b ≤ 3 ∧ c = 0) by omega]
    rw [if_neg h1, if_neg h1]
    by_cases h4 : a = 2
    · rw [if_pos h4, if_pos h4]
      by_cases h2 : 0 ≤ b ∧ b ≤ 3
      · by_cases h3 : c = 0 <;> simp [h2, h3]
      · simp [h2, show ¬ (0 ≤ b ∧ b ≤ 3 ∧ c = 0) by omega]
    rw [if_neg h4, if_neg h4]
    by_cases h5 : a = 3
    · rw [if_pos h5, if_pos h5]
      by_cases h6 : b = 0
      · by_cases h7 : 1 ≤ c ∧ c ≤ 16 <;> simp [h6, h7]
      · simp [h6]
    · rw [if_neg h5, if_neg h5]
  unfold impl_EventOk.f impl_isEvent.f eventOk
  by_cases h0 : d = 0
  · rw [if_pos h0, key, Option.bind_some]
    congr 1
    by_cases hl : l.length = 0
    · simp [h0, hl]
    · have e : ((l.length : Int) == 0) = false := by rw [beq_eq_false_iff_ne]; omega
      by_cases h1 : a = 1 <;> by_cases h2 : a = 2 <;> simp [h0, hl, e, h1, h2]
  · rw [if_neg h0, key, Option.bind_some]
    simp [h0]

theorem FnExactEventOk : laws_FnExactEventOk.Pure := by
  intro a b c d l _ _ _ _ ⟨hn, _⟩
  refine ⟨l.length + 50, ?_⟩
  unfold laws_FnExactEventOk.f laws_szEvent.f laws_szReq.f
  rw [szIntS_eq l _ hn (by omega) (by omega)]
  simp only [Option.bind_some]
  by_cases hc : (1048576 : Int) < l.length
  · rw [if_pos hc]; simp
  · rw [if_neg hc]
    have e1 : laws_toEvent.f (l.length + 50) a b c d l = some (a, b, c, d, l) := by
      unfold laws_toEvent.f laws_toReq.f
      rw [toIntS_eq l (by omega) _ (by omega)]
      rfl
    have e4 : laws_eqEvent.f (l.length + 50) a b c d l a b c d l = some true := by
      unfold laws_eqEvent.f laws_eqReq.f
      rw [eqIntS_self l (by omega) _ (by omega)]
      simp
    simp only [Option.bind_some, e1, spec_event a b c d l _ (show 20 < l.length + 50 by omega), impl_event a b c d l _ (show 20 < l.length + 50 by omega), e4]
    rw [if_neg (show ¬ ((1048576 : Int) - l.length < 0) by omega)]
    simp only [Option.bind_some]
    rw [if_neg (by omega)]
    simp

end Go.Proofs.Ytgccnoknhffhjaa.Pure
