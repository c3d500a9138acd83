/- The sizes of the classes, and the places of the ones as the program finds them. Conditions: none. -/
import Derived.Test.YtobboonnfocalaaGreatDoorCtlPureG1
import Derived.Test.YtobboonnfocalaaGreatDoorPG1x3
import Derived.Test.YtobboonnfocalaaGreatDoorPG1x0
set_option linter.unusedVariables false
set_option linter.unusedSimpArgs false
namespace Go.Proofs.YtobboonnfocalaaGreatDoor.Base
open Go.RowKit Go.Proofs.YtobboonnfocalaaGreatDoor.PG1 Go.Proofs.YtobboonnfocalaaGreatDoorW.PrintWords Go.Proofs.YtobboonnfocalaaGreatDoorW.PrintLast Go.Proofs.YtobboonnfocalaaGreatDoorW.PrintMore

def sz (b : Int) : Int := if b = 0 then 1 else if b = 1 then 2 else if b = 2 then 4 else if b = 3 then 8 else 16
theorem sz_pos (b : Int) : 1 ≤ sz b ∧ sz b ≤ 16 := by
  unfold sz
  (repeat' split) <;> omega
theorem shr_sz {b off : Int} (hb : 0 ≤ b ∧ b ≤ 4) : shr .i64 off b = off / sz b := by
  rcases class_cases hb with rfl | rfl | rfl | rfl | rfl <;> simp [shr, sz, IntKind.bits]
theorem shl_sz {b i : Int} (hb : 0 ≤ b ∧ b ≤ 4) (hi : 0 ≤ i ∧ i ≤ 100) : shl .i64 i b = i * sz b := by
  rcases class_cases hb with rfl | rfl | rfl | rfl | rfl <;> simp only [shl, sz, IntKind.bits, IntKind.wrap_i64] <;> simp <;> omega
theorem impl_size (b : Int) (hb : 0 ≤ b ∧ b ≤ 4) : impl_ClassSize.f b = some (sz b) := by
  unfold impl_ClassSize.f
  rw [impl_class, Option.bind_some, decide_eq_true hb, if_pos rfl, if_pos hb.1, shl_sz hb (by omega), Int.one_mul]
theorem spec_size (b : Int) (hb : 0 ≤ b ∧ b ≤ 4) (k : Nat) (hk : 10 < k) : spec_ClassSize.f k b = some (sz b) := by
  obtain ⟨k, rfl⟩ : ∃ m, k = m + 10 := ⟨k - 10, by omega⟩
  unfold spec_ClassSize.f spec_l04Pow.f
  rw [spec_class, Option.bind_some, decide_eq_true hb, if_pos rfl]
  rcases class_cases hb with rfl | rfl | rfl | rfl | rfl <;> simp [spec_l04Pow.l0, wrap64, sz]


theorem bit32 {m n : Nat} (hm : m < 4294967296) (h : n < 32) : Go.bits .and .u32 (shr .u32 (m : Int) (n : Int)) 1 = ((m / 2 ^ n % 2 : Nat) : Int) := by
  unfold shr
  rw [Int.toNat_natCast, Nat.min_eq_left (by show n ≤ 32; omega)]
  have e : ((m : Int) / 2 ^ n) = ((m / 2 ^ n : Nat) : Int) := by simp
  have hle := Nat.div_le_self m (2 ^ n)
  rw [e]
  generalize m / 2 ^ n = q at hle ⊢
  rw [show (1 : Int) = 2 ^ 1 - 1 by omega, bits_mask .u32 32 (by decide) wraps_u32 1 (by decide) _ (by omega) (by omega)]
  omega
theorem impl_ons_loop (x : Nat) (hx : x < 4294967296) : ∀ (d i : Nat) (acc : List Int) (k : Nat), i + d = 32 → d < k → acc.length ≤ i → impl_BitList.l0 k (x : Int) acc (i : Int) = some (acc ++ ons i (bitsN d (x / 2 ^ i)))
  | 0, i, acc, k, hd, hk, ha => by
    obtain ⟨k, rfl⟩ : ∃ m, k = m + 1 := ⟨k - 1, by omega⟩
    simp only [impl_BitList.l0]
    rw [if_neg (by omega)]
    simp [bitsN, ons]
  | d + 1, i, acc, k, hd, hk, ha => by
    obtain ⟨k, rfl⟩ : ∃ m, k = m + 1 := ⟨k - 1, by omega⟩
    simp only [impl_BitList.l0]
    rw [if_pos (by omega), if_pos (by omega), bit32 hx (by omega), w64 (by omega) (by omega), show (i : Int) + 1 = ((i + 1 : Nat) : Int) by omega, bitsN, ons, Nat.div_div_eq_div_mul, ← Nat.pow_succ]
    by_cases c : ((x / 2 ^ i % 2 : Nat) : Int) = 1
    · rw [if_pos c, if_pos (by omega), if_pos c, impl_ons_loop x hx d (i + 1) _ k (by omega) (by omega) (by simp; omega), List.append_assoc]
    · rw [if_neg c, if_neg c, impl_ons_loop x hx d (i + 1) _ k (by omega) (by omega) (by omega), List.nil_append]
theorem impl_bitList (x : Nat) (hx : x < 4294967296) (k : Nat) (hk : 40 < k) : impl_BitList.f k (x : Int) = some (bitList x) := by
  unfold impl_BitList.f bitList
  have h := impl_ons_loop x hx 32 0 [] k (by omega) (by omega) (by simp)
  simpa using h
theorem ons_range : ∀ (l : List Int) (i : Nat) (b : Int), b ∈ ons i l → (i : Int) ≤ b ∧ b < i + l.length
  | [], _, b, h => by simp [ons] at h
  | x :: r, i, b, h => by
    unfold ons at h
    rw [List.length_cons]
    rcases List.mem_append.1 h with h | h
    · split at h
      · simp at h; omega
      · simp at h
    · have := ons_range r (i + 1) b h
      omega
theorem bitList_range {x : Nat} {b : Int} (h : b ∈ bitList x) : 0 ≤ b ∧ b < 32 := by
  have := ons_range _ _ _ h
  rw [bitsN_length] at this
  omega
theorem bitList_len (x : Nat) : (bitList x).length ≤ 32 := by
  have := ons_length (bitsN 32 x) 0
  rw [bitsN_length] at this
  exact this
theorem bitList_zero : bitList 0 = [] := ons_zero 32 0
end Go.Proofs.YtobboonnfocalaaGreatDoor.Base
