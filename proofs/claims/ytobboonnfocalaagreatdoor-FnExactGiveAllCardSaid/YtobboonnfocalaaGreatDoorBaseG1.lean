/- Plain facts that every pure statement uses: numbers that do not wrap, loops over lists, readings of lists. Conditions: none. -/
import Derived.Test.YtobboonnfocalaaGreatDoorVG10
set_option linter.unusedVariables false
set_option linter.unusedSimpArgs false
namespace Go.Proofs.YtobboonnfocalaaGreatDoor.Base
open Go.RowKit Go.Proofs.YtobboonnfocalaaGreatDoorW.PrintWords Go.Proofs.YtobboonnfocalaaGreatDoorW.PrintLast Go.Proofs.YtobboonnfocalaaGreatDoorW.PrintMore

theorem w64 {n : Int} (h0 : -9223372036854775808 ≤ n) (h1 : n ≤ 9223372036854775807) : wrap64 n = n := by unfold wrap64; omega
theorem wf_i64 {n : Int} (h : (Lit.int .i64 n).wf = true) : -9223372036854775808 ≤ n ∧ n ≤ 9223372036854775807 := by
  simp [Lit.wf, IntKind.min, IntKind.max, IntKind.bits, IntKind.signed] at h
  omega
theorem wf_u32 {n : Int} (h : (Lit.int .u32 n).wf = true) : 0 ≤ n ∧ n ≤ 4294967295 := by
  simp [Lit.wf, IntKind.min, IntKind.max, IntKind.bits, IntKind.signed] at h
  omega
theorem wf_u8 {n : Int} (h : (Lit.int .u8 n).wf = true) : 0 ≤ n ∧ n ≤ 255 := by
  simp [Lit.wf, IntKind.min, IntKind.max, IntKind.bits, IntKind.signed] at h
  omega
theorem rd_nat (xs : List Int) (i : Nat) : rd xs (i : Int) = xs.getD i 0 := rfl
theorem rd_mem {xs : List Int} {i : Int} (h0 : 0 ≤ i) (h1 : i < xs.length) : rd xs i ∈ xs := by
  unfold rd
  rw [List.getD_eq_getElem?_getD, List.getElem?_eq_getElem (by omega)]
  exact List.getElem_mem _

/-- A loop that fills a row of the same length, element by element. -/
theorem fill_loop {α β : Type} (xs : List α) (g : α → β) (F : Nat → List β → Int → Option (List β)) (hn : (xs.length : Int) < 9223372036854775807)
    (hend : ∀ k ys, F (k + 1) ys (xs.length : Int) = some ys)
    (hgo : ∀ k ys (i : Nat) (h : i < xs.length), ys.length = xs.length → F (k + 1) ys (i : Int) = F k (ys.set i (g xs[i])) ((i + 1 : Nat) : Int)) :
    ∀ (d : Nat) (i : Nat) (ys : List β) (k : Nat), ys.length = xs.length → i + d = xs.length → d < k → F k ys (i : Int) = some (ys.take i ++ (xs.drop i).map g)
  | 0, i, ys, k, hl, hd, hk => by
    obtain ⟨k, rfl⟩ : ∃ m, k = m + 1 := ⟨k - 1, by omega⟩
    obtain rfl : i = xs.length := by omega
    rw [hend, List.drop_length, List.map_nil, List.append_nil, List.take_of_length_le (by omega)]
  | d + 1, i, ys, k, hl, hd, hk => by
    obtain ⟨k, rfl⟩ : ∃ m, k = m + 1 := ⟨k - 1, by omega⟩
    have hi : i < xs.length := by omega
    rw [hgo k ys i hi hl, fill_loop xs g F hn hend hgo d (i + 1) _ k (by rw [List.length_set]; exact hl) (by omega) (by omega)]
    congr 1
    rw [List.drop_eq_getElem_cons hi, List.map_cons, List.take_succ_eq_append_getElem (by rw [List.length_set]; omega), List.getElem_set_self, List.append_assoc, List.singleton_append, List.take_set_of_le (Nat.le_refl i)]
/-- A loop that asks each index, and ends at the first that says no. -/
theorem all_loop (n : Nat) (p : Nat → Bool) (F : Nat → Int → Option Bool) (hend : ∀ k, F (k + 1) (n : Int) = some true)
    (hgo : ∀ k (i : Nat), i < n → F (k + 1) (i : Int) = if p i = true then F k ((i + 1 : Nat) : Int) else some false) :
    ∀ (d i k : Nat), i + d = n → d < k → ∃ b, F k (i : Int) = some b ∧ (b = true ↔ ∀ j, i ≤ j → j < n → p j = true)
  | 0, i, k, hd, hk => by
    obtain ⟨k, rfl⟩ : ∃ m, k = m + 1 := ⟨k - 1, by omega⟩
    obtain rfl : i = n := by omega
    exact ⟨true, hend k, ⟨fun _ j h1 h2 => by omega, fun _ => rfl⟩⟩
  | d + 1, i, k, hd, hk => by
    obtain ⟨k, rfl⟩ : ∃ m, k = m + 1 := ⟨k - 1, by omega⟩
    by_cases h : p i = true
    · obtain ⟨b, h1, h2⟩ := all_loop n p F hend hgo d (i + 1) k (by omega) (by omega)
      refine ⟨b, by rw [hgo k i (by omega), if_pos h]; exact h1, h2.trans ⟨fun hh j h3 h4 => ?_, fun hh j h3 h4 => hh j (by omega) h4⟩⟩
      rcases Nat.eq_or_lt_of_le h3 with rfl | h5
      · exact h
      · exact hh j h5 h4
    · exact ⟨false, by rw [hgo k i (by omega), if_neg h], ⟨(fun hh => by cases hh), fun hh => absurd (hh i (Nat.le_refl _) (by omega)) h⟩⟩
/-- What a marking leaves: the element at j is g of the number that stands there. -/
def marks {β : Type} (g : Int → β) (s : Int) : Int → Nat → List β
  | _, 0 => []
  | c, n + 1 => g c :: marks g s (c + s) n
theorem marks_length {β : Type} (g : Int → β) (s : Int) : ∀ (n : Nat) (c : Int), (marks g s c n).length = n
  | 0, _ => rfl
  | n + 1, c => by simp [marks, marks_length g s n]
theorem marks_get {β : Type} (g : Int → β) (s : Int) : ∀ (n : Nat) (c : Int) (j : Nat) (h : j < (marks g s c n).length), (marks g s c n)[j] = g (c + s * j)
  | 0, c, j, h => by simp [marks] at h
  | n + 1, c, 0, h => by simp [marks]
  | n + 1, c, j + 1, h => by
    simp only [marks, List.getElem_cons_succ]
    rw [marks_get g s n]
    congr 1
    rw [Int.natCast_add, Int.mul_add, Int.natCast_one, Int.mul_one]
    omega
theorem mark_loop {β : Type} (g : Int → β) (s : Int) (M : Int) (N : Nat) (F : Nat → List β → Int → Int → Option (Int × List β)) (hs : 0 ≤ s)
    (hend : ∀ k ys c, F (k + 1) ys c (ys.length : Int) = some (c, ys))
    (hgo : ∀ k (ys : List β) (c : Int) (i : Nat), i < ys.length → 0 ≤ c → c ≤ M → ys.length = N → F (k + 1) ys c (i : Int) = F k (ys.set i (g c)) (c + s) ((i + 1 : Nat) : Int)) :
    ∀ (d : Nat) (i : Nat) (ys : List β) (c : Int) (k : Nat), i + d = ys.length → d < k → 0 ≤ c → c + s * d ≤ M → ys.length = N → F k ys c (i : Int) = some (c + s * d, ys.take i ++ marks g s c d)
  | 0, i, ys, c, k, hd, hk, h0, h1, hN => by
    obtain ⟨k, rfl⟩ : ∃ m, k = m + 1 := ⟨k - 1, by omega⟩
    obtain rfl : i = ys.length := by omega
    rw [hend, List.take_length]
    simp [marks]
  | d + 1, i, ys, c, k, hd, hk, h0, h1, hN => by
    obtain ⟨k, rfl⟩ : ∃ m, k = m + 1 := ⟨k - 1, by omega⟩
    have hi : i < ys.length := by omega
    have e : s * ((d + 1 : Nat) : Int) = s * d + s := by rw [Int.natCast_add, Int.mul_add, Int.natCast_one, Int.mul_one]
    have hd0 : 0 ≤ s * (d : Int) := Int.mul_nonneg hs (by omega)
    rw [hgo k ys c i hi h0 (by omega) hN, mark_loop g s M N F hs hend hgo d (i + 1) _ (c + s) k (by rw [List.length_set]; omega) (by omega) (by omega) (by omega) (by rw [List.length_set]; exact hN)]
    congr 1
    rw [Prod.mk.injEq]
    refine ⟨by omega, ?_⟩
    rw [List.take_succ_eq_append_getElem (by rw [List.length_set]; omega), List.getElem_set_self, List.append_assoc, List.singleton_append, List.take_set_of_le (Nat.le_refl i)]
    rfl
theorem held_loop {β : Type} (g : Int → β) (s : Int) (M : Int) (n : Nat) (c0 : Int) (F : Nat → Int → Int → Option Int) (hs : 0 ≤ s) (hc0 : 0 ≤ c0) (hM : c0 + s * n ≤ M)
    (hend : ∀ k c, F (k + 1) c (n : Int) = some c)
    (hgo : ∀ k (i : Nat), i < n → c0 + s * i ≤ M → F (k + 1) (c0 + s * i) (i : Int) = F k (c0 + s * i + s) ((i + 1 : Nat) : Int)) :
    ∀ (d i k : Nat), i + d = n → d < k → F k (c0 + s * i) (i : Int) = some (c0 + s * n)
  | 0, i, k, hd, hk => by
    obtain ⟨k, rfl⟩ : ∃ m, k = m + 1 := ⟨k - 1, by omega⟩
    obtain rfl : i = n := by omega
    rw [hend]
  | d + 1, i, k, hd, hk => by
    obtain ⟨k, rfl⟩ : ∃ m, k = m + 1 := ⟨k - 1, by omega⟩
    have e : s * ((i + 1 : Nat) : Int) = s * i + s := by rw [Int.natCast_add, Int.mul_add, Int.natCast_one, Int.mul_one]
    have hn : s * (i : Int) ≤ s * (n : Int) := Int.mul_le_mul_of_nonneg_left (by omega) hs
    rw [hgo k i (by omega) (by omega), show c0 + s * (i : Int) + s = c0 + s * ((i + 1 : Nat) : Int) by omega]
    exact held_loop g s M n c0 F hs hc0 hM hend hgo d (i + 1) k (by omega) (by omega)
end Go.Proofs.YtobboonnfocalaaGreatDoor.Base
