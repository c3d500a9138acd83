/- Plain facts that every pure statement uses: numbers that do not wrap, loops over lists, readings of lists. Conditions: none. -/
import Derived.Test.YtokgcjkdbhnlbaaWMore
set_option linter.unusedVariables false
set_option linter.unusedSimpArgs false
namespace Go.Proofs.Ytokgcjkdbhnlbaa.Base
open Go.RowKit Go.Proofs.YtokgcjkdbhnlbaaW.PrintWords Go.Proofs.YtokgcjkdbhnlbaaW.PrintLast Go.Proofs.YtokgcjkdbhnlbaaW.PrintMore

theorem w64 {n : Int} (h0 : -9223372036854775808 ≤ n) (h1 : n ≤ 9223372036854775807) : wrap64 n = n := by unfold wrap64; omega
theorem wf_i64 {n : Int} (h : (Lit.int .i64 n).wf = true) : -9223372036854775808 ≤ n ∧ n ≤ 9223372036854775807 := by
  simp [Lit.wf, IntKind.min, IntKind.max, IntKind.bits, IntKind.signed] at h
  omega
theorem wf_u32 {n : Int} (h : (Lit.int .u32 n).wf = true) : 0 ≤ n ∧ n ≤ 4294967295 := by
  simp [Lit.wf, IntKind.min, IntKind.max, IntKind.bits, IntKind.signed] at h
  omega
theorem wf_u8 {n : Int} (h : (Lit.int .u8 n).wf = true) : 0 ≤ n ∧ n ≤ 255 := by
  simp [Lit.wf, IntKind.min, IntKind.max, IntKind.bits, IntKind.signed] at h
  omega
theorem rd_nat (xs : List Int) (i : Nat) : rd xs (i : Int) = xs.getD i 0 := rfl
theorem rd_mem {xs : List Int} {i : Int} (h0 : 0 ≤ i) (h1 : i < xs.length) : rd xs i ∈ xs := by
  unfold rd
  rw [List.getD_eq_getElem?_getD, List.getElem?_eq_getElem (by omega)]
  exact List.getElem_mem _

/-- A loop that fills a row of the same length, element by element. -/
theorem fill_loop {α β : Type} (xs : List α) (g : α → β) (F : Nat → List β → Int → Option (List β)) (hn : (xs.length : Int) < 9223372036854775807)
    (hend : ∀ k ys, F (k + 1) ys (xs.length : Int) = some ys)
    (hgo : ∀ k ys (i : Nat) (h : i < xs.length), ys.length = xs.length → F (k + 1) ys (i : Int) = F k (ys.set i (g xs[i])) ((i + 1 : Nat) : Int)) :
    ∀ (d : Nat) (i : Nat) (ys : List β) (k : Nat), ys.length = xs.length → i + d = xs.length → d < k → F k ys (i : Int) = some (ys.take i ++ (xs.drop i).map g)
  | 0, i, ys, k, hl, hd, hk => by
    obtain ⟨k, rfl⟩ : ∃ m, k = m + 1 := ⟨k - 1, by omega⟩
    obtain rfl : i = xs.length := by omega
    rw [hend, List.drop_length, List.map_nil, List.append_nil, List.take_of_length_le (by omega)]
  | d + 1, i, ys, k, hl, hd, hk => by
    obtain ⟨k, rfl⟩ : ∃ m, k = m + 1 := ⟨k - 1, by omega⟩
    have hi : i < xs.length := by omega
    rw [hgo k ys i hi hl, fill_loop xs g F hn hend hgo d (i + 1) _ k (by rw [List.length_set]; exact hl) (by omega) (by omega)]
    congr 1
    rw [List.drop_eq_getElem_cons hi, List.map_cons, List.take_succ_eq_append_getElem (by rw [List.length_set]; omega), List.getElem_set_self, List.append_assoc, List.singleton_append, List.take_set_of_le (Nat.le_refl i)]
/-- A loop that asks each index, and ends at the first that says no. -/
theorem all_loop (n : Nat) (p : Nat → Bool) (F : Nat → Int → Option Bool) (hend : ∀ k, F (k + 1) (n : Int) = some true)
    (hgo : ∀ k (i : Nat), i < n → F (k + 1) (i : Int) = if p i = true then F k ((i + 1 : Nat) : Int) else some false) :
    ∀ (d i k : Nat), i + d = n → d < k → ∃ b, F k (i : Int) = some b ∧ (b = true ↔ ∀ j, i ≤ j → j < n → p j = true)
  | 0, i, k, hd, hk => by
    obtain ⟨k, rfl⟩ : ∃ m, k = m + 1 := ⟨k - 1, by omega⟩
    obtain rfl : i = n := by omega
    exact ⟨true, hend k, ⟨fun _ j h1 h2 => by omega, fun _ => rfl⟩⟩
  | d + 1, i, k, hd, hk => by
    obtain ⟨k, rfl⟩ : ∃ m, k = m + 1 := ⟨k - 1, by omega⟩
    by_cases h : p i = true
    · obtain ⟨b, h1, h2⟩ := all_loop n p F hend hgo d (i + 1) k (by omega) (by omega)
      refine ⟨b, by rw [hgo k i (by omega), if_pos h]; exact h1, h2.trans ⟨fun hh j h3 h4 => ?_, fun hh j h3 h4 => hh j (by omega) h4⟩⟩
      rcases Nat.eq_or_lt_of_le h3 with rfl | h5
      · exact h
      · exact hh j h5 h4
    · exact ⟨false, by rw [hgo k i (by omega), if_neg h], ⟨(fun hh => by cases hh), fun hh => absurd (hh i (Nat.le_refl _) (by omega)) h⟩⟩
end Go.Proofs.Ytokgcjkdbhnlbaa.Base
