/- The reference's way from a word to its bits and back. Conditions: none. -/
import Derived.Test.YtobboonnfocalaaGreatDoorCtlPureG1
import Derived.Test.YtobboonnfocalaaGreatDoorPG1x0
import Derived.Test.YtobboonnfocalaaGreatDoorPG1x1
set_option linter.unusedVariables false
set_option linter.unusedSimpArgs false
namespace Go.Proofs.YtobboonnfocalaaGreatDoor.Base
open Go.RowKit Go.Proofs.YtobboonnfocalaaGreatDoor.PG1 Go.Proofs.YtobboonnfocalaaGreatDoorW.PrintWords Go.Proofs.YtobboonnfocalaaGreatDoorW.PrintLast Go.Proofs.YtobboonnfocalaaGreatDoorW.PrintMore

theorem rd_bits : ∀ (N m n : Nat), n < N → (bitsN N m).getD n 0 = ((m / 2 ^ n % 2 : Nat) : Int)
  | 0, m, n, h => by omega
  | N + 1, m, 0, h => by simp [bitsN]
  | N + 1, m, n + 1, h => by
    have := rd_bits N (m / 2) n (by omega)
    rw [Nat.div_div_eq_div_mul, Nat.mul_comm 2, ← Nat.pow_succ] at this
    simpa [bitsN] using this
/-- The number of a list of bits, lowest first. -/
def val : List Int → Int
  | [] => 0
  | b :: r => b + 2 * val r
theorem spec_word_loop (l : List Int) (hl : l.length = 32) (hb : ∀ j : Nat, j ≤ 32 → 0 ≤ val (l.drop j) ∧ val (l.drop j) < 4294967296) (h01 : ∀ x ∈ l, 0 ≤ x ∧ x ≤ 1) : ∀ (i k : Nat), i ≤ 32 → i < k → spec_l01Word.l0 k l (val (l.drop i)) ((i : Int) - 1) = some (val l)
  | 0, k, hi, hk => by
    obtain ⟨k, rfl⟩ : ∃ m, k = m + 1 := ⟨k - 1, by omega⟩
    simp only [spec_l01Word.l0]
    rw [if_neg (by omega)]
    simp
  | i + 1, k, hi, hk => by
    obtain ⟨k, rfl⟩ : ∃ m, k = m + 1 := ⟨k - 1, by omega⟩
    have hi' : i < l.length := by omega
    have h1 := hb i (by omega)
    have h2 := hb (i + 1) (by omega)
    have h3 := h01 l[i] (List.getElem_mem hi')
    have ih := spec_word_loop l hl hb h01 i k (by omega) (by omega)
    have e : rd l (i : Int) = l[i] := by unfold rd; simp [List.getD_eq_getElem?_getD, hi']
    have ev : val (l.drop i) = l[i] + 2 * val (l.drop (i + 1)) := by rw [List.drop_eq_getElem_cons hi']; rfl
    simp only [spec_l01Word.l0]
    rw [show ((i + 1 : Nat) : Int) - 1 = (i : Int) by omega, if_pos (by omega), if_pos (by omega), if_pos (by omega), e, w64 (by omega) (by omega)]
    rw [ev] at ih h1
    rw [← ih]
    congr 1
    omega
theorem spec_bits (m : Nat) (hm : m < 65536) (k : Nat) (hk : 40 < k) : spec_l01Bits.f k (m : Int) = some (bitsN 32 m) := by
  unfold spec_l01Bits.f
  have h1 := spec_bits_loop 32 0 m [] k (by omega) (by omega) (by omega) (by simp)
  simpa using h1
end Go.Proofs.YtobboonnfocalaaGreatDoor.Base
