/- Masks of eight lanes: which lanes ask, the lowest bit, and when one mask lies within another. Conditions: none. -/
import Derived.Test.YtobboonnfocalaaGreatDoorSetPureG1
import Derived.Test.YtobboonnfocalaaGreatDoorLowG1
import Derived.Laws.BitsAllLaws
import Derived.Test.YtobboonnfocalaaGreatDoorPG1x4
import Derived.Test.YtobboonnfocalaaGreatDoorPG1x0
set_option linter.unusedVariables false
set_option linter.unusedSimpArgs false
namespace Go.Proofs.YtobboonnfocalaaGreatDoor.Base
open Go.RowKit Go.Proofs.YtobboonnfocalaaGreatDoor.PG1 Go.Proofs.YtobboonnfocalaaGreatDoorW.PrintWords Go.Proofs.YtobboonnfocalaaGreatDoorW.PrintLast Go.Proofs.YtobboonnfocalaaGreatDoorW.PrintMore

/-- A lane asks. -/
def askB (c x : Int) : Bool := decide (c = 1 ∧ 0 < x) || decide (c = 2 ∧ 0 ≤ x)
def askBits (c : Int) (vals : List Int) : List Int := vals.map fun x => if askB c x = true then 1 else 0
def mkN : List Int → Nat
  | [] => 0
  | b :: r => (if b = 1 then 1 else 0) + 2 * mkN r
theorem mkN_lt : ∀ l : List Int, mkN l < 2 ^ l.length
  | [] => by simp [mkN]
  | b :: r => by
    have := mkN_lt r
    rw [List.length_cons, Nat.pow_succ]
    unfold mkN
    split <;> omega
theorem mkN_bit : ∀ (l : List Int) (j : Nat), mkN l / 2 ^ j % 2 = if l.getD j 0 = 1 then 1 else 0
  | [], j => by simp [mkN]
  | b :: r, 0 => by
    unfold mkN
    simp only [Nat.pow_zero, Nat.div_one, List.getD_cons_zero]
    split <;> omega
  | b :: r, j + 1 => by
    have := mkN_bit r j
    rw [Nat.pow_succ, Nat.mul_comm, ← Nat.div_div_eq_div_mul]
    unfold mkN
    rw [show ((if b = 1 then 1 else 0) + 2 * mkN r) / 2 = mkN r by split <;> omega, this]
    simp
theorem mem_ons : ∀ (l : List Int) (i : Nat) (b : Int), b ∈ ons i l ↔ ∃ j : Nat, j < l.length ∧ l.getD j 0 = 1 ∧ b = ((i + j : Nat) : Int)
  | [], i, b => by simp [ons]
  | x :: r, i, b => by
    unfold ons
    rw [List.mem_append, mem_ons r (i + 1) b]
    constructor
    · rintro (h | ⟨j, h1, h2, h3⟩)
      · by_cases c : x = 1
        · rw [if_pos c, List.mem_singleton] at h
          exact ⟨0, by simp, by simpa using c, by simpa using h⟩
        · rw [if_neg c] at h; simp at h
      · exact ⟨j + 1, by simpa using h1, by simpa using h2, by rw [h3]; omega⟩
    · rintro ⟨j, h1, h2, h3⟩
      cases j with
      | zero =>
        left
        rw [if_pos (by simpa using h2), List.mem_singleton]
        simpa using h3
      | succ j => exact Or.inr ⟨j, by simpa using h1, by simpa using h2, by rw [h3]; omega⟩
theorem mem_bitList (x : Nat) (b : Int) : b ∈ bitList x ↔ ∃ j : Nat, j < 32 ∧ x / 2 ^ j % 2 = 1 ∧ b = (j : Int) := by
  unfold bitList
  rw [mem_ons, bitsN_length]
  constructor
  · rintro ⟨j, h1, h2, h3⟩
    rw [rd_bits 32 x j h1] at h2
    exact ⟨j, h1, by omega, by simpa using h3⟩
  · rintro ⟨j, h1, h2, h3⟩
    exact ⟨j, h1, by rw [rd_bits 32 x j h1]; omega, by simpa using h3⟩
theorem within_mask : ∀ (n t m : Nat), t < 2 ^ n → m < 2 ^ n → (t &&& (2 ^ n - 1 - m) = 0 ↔ ∀ j, j < n → t / 2 ^ j % 2 = 1 → m / 2 ^ j % 2 = 1)
  | 0, t, m, ht, hm => by simp at ht; subst ht; simp
  | n + 1, t, m, ht, hm => by
    have hp := Nat.two_pow_pos n
    rw [Nat.pow_succ] at ht hm
    have ih := within_mask n (t / 2) (m / 2) (by omega) (by omega)
    rw [land_split 1, Nat.pow_one, Nat.pow_succ, show (2 ^ n * 2 - 1 - m) / 2 = 2 ^ n - 1 - m / 2 by omega, show (2 ^ n * 2 - 1 - m) % 2 = 1 - m % 2 by omega]
    have hlow : (t % 2 &&& (1 - m % 2) = 0) ↔ (t % 2 = 1 → m % 2 = 1) := by
      rcases Nat.mod_two_eq_zero_or_one t with h1 | h1 <;> rcases Nat.mod_two_eq_zero_or_one m with h2 | h2 <;> rw [h1, h2] <;> simp
    constructor
    · intro h j hj hb
      have h1 : (t / 2 &&& (2 ^ n - 1 - m / 2)) = 0 := by omega
      have h2 : (t % 2 &&& (1 - m % 2)) = 0 := by omega
      cases j with
      | zero => simp only [Nat.pow_zero, Nat.div_one] at hb ⊢; exact hlow.1 h2 hb
      | succ j =>
        rw [Nat.pow_succ, Nat.mul_comm, ← Nat.div_div_eq_div_mul] at hb ⊢
        exact ih.1 h1 j (by omega) hb
    · intro h
      have h1 : (t / 2 &&& (2 ^ n - 1 - m / 2)) = 0 := ih.2 fun j hj hb => by
        have := h (j + 1) (by omega)
        rw [Nat.pow_succ, Nat.mul_comm, ← Nat.div_div_eq_div_mul, ← Nat.div_div_eq_div_mul] at this
        exact this hb
      have h2 : (t % 2 &&& (1 - m % 2)) = 0 := hlow.2 (by have := h 0 (by omega); simpa using this)
      omega
theorem ons_first : ∀ (n i x : Nat), x ≠ 0 → x < 2 ^ n → ∃ l, ons i (bitsN n x) = ((i + Lib.ctzFrom n x : Nat) : Int) :: l
  | 0, i, x, h0, h1 => by simp at h1; omega
  | n + 1, i, x, h0, h1 => by
    rw [Nat.pow_succ] at h1
    unfold bitsN ons Lib.ctzFrom
    by_cases c : x % 2 = 1
    · rw [if_pos (by omega), if_pos c]
      exact ⟨_, rfl⟩
    · obtain ⟨l, hl⟩ := ons_first n (i + 1) (x / 2) (by omega) (by omega)
      rw [if_neg (by omega), if_neg c, hl]
      exact ⟨l, by rw [List.nil_append, show i + 1 + Lib.ctzFrom n (x / 2) = i + (1 + Lib.ctzFrom n (x / 2)) by omega]⟩
theorem bitList_first {x : Nat} (h0 : x ≠ 0) (h1 : x < 4294967296) : ∃ l, bitList x = (Lib.ctz 32 x : Int) :: l := by
  obtain ⟨l, hl⟩ := ons_first 32 0 x h0 h1
  refine ⟨l, ?_⟩
  unfold bitList
  rw [hl]
  simp [Lib.ctz, h0]
theorem impl_lowest {x : Nat} (h0 : x ≠ 0) (h1 : x < 4294967296) : impl_Lowest.f (x : Int) = some (Lib.ctz 32 x : Int) := by
  unfold impl_Lowest.f
  rw [if_pos (by omega), if_neg (by omega), Int.toNat_natCast]

theorem askBits_length (c : Int) (vals : List Int) : (askBits c vals).length = vals.length := by simp [askBits]
theorem askBits_get (c : Int) (vals : List Int) (j : Nat) (h : j < vals.length) : (askBits c vals).getD j 0 = if askB c (vals.getD j 0) = true then 1 else 0 := by
  unfold askBits
  simp [List.getD_eq_getElem?_getD, List.getElem?_map, List.getElem?_eq_getElem h]
theorem askB_one {x : Int} : askB 1 x = decide (0 < x) := by simp [askB]
theorem askB_two {x : Int} : askB 2 x = decide (0 ≤ x) := by simp [askB]
theorem askB_none {c x : Int} (h1 : c ≠ 1) (h2 : c ≠ 2) : askB c x = false := by simp [askB, h1, h2]
theorem rdG (l : List Int) (i : Nat) (h : i < l.length) : rd l (i : Int) = l[i] := by
  rw [rd_nat, List.getD_eq_getElem?_getD, List.getElem?_eq_getElem h, Option.getD_some]

theorem ons_cons (i : Nat) (b : Int) (r : List Int) : ons i (b :: r) = (if b = 1 then [(i : Int)] else []) ++ ons (i + 1) r := rfl
theorem spec_asks_loop (c : Int) (vals : List Int) (hl : vals.length = 8) : ∀ (d i : Nat) (acc : List Int) (k : Nat), i + d = 8 → d < k → acc.length ≤ i →
    spec_l07Asks.l0 k c vals acc (i : Int) = some (acc ++ ons i (askBits c (vals.drop i)))
  | 0, i, acc, k, hd, hk, ha => by
    obtain ⟨k, rfl⟩ : ∃ m, k = m + 1 := ⟨k - 1, by omega⟩
    simp only [spec_l07Asks.l0]
    rw [if_neg (by omega), List.drop_eq_nil_of_le (by omega)]
    simp [askBits, ons]
  | d + 1, i, acc, k, hd, hk, ha => by
    obtain ⟨k, rfl⟩ : ∃ m, k = m + 1 := ⟨k - 1, by omega⟩
    have hi : i < vals.length := by omega
    have y := spec_asks_loop c vals hl d (i + 1) (acc ++ [(i : Int)]) k (by omega) (by omega) (by simp; omega)
    have n := spec_asks_loop c vals hl d (i + 1) acc k (by omega) (by omega) (by omega)
    have e : vals.drop i = vals[i] :: vals.drop (i + 1) := by rw [List.drop_eq_getElem_cons hi]
    have g : askBits c (vals.drop i) = (if askB c vals[i] = true then 1 else 0) :: askBits c (vals.drop (i + 1)) := by rw [e]; rfl
    rw [g, ons_cons]
    simp only [spec_l07Asks.l0]
    rw [if_pos (by omega), w64 (by omega) (by omega), show (i : Int) + 1 = ((i + 1 : Nat) : Int) by omega, rdG vals i hi, y, n]
    by_cases c1 : c = 1
    · subst c1
      rw [askB_one]
      by_cases q : 0 < vals[i]
      · rw [if_pos rfl, if_pos (by omega), if_pos q, if_pos (by omega)]
        simp [q]
      · rw [if_pos rfl, if_pos (by omega), if_neg q, if_neg (by decide)]
        simp [q]
    · by_cases c2 : c = 2
      · subst c2
        rw [askB_two]
        by_cases q : 0 ≤ vals[i]
        · rw [if_neg c1, if_pos rfl, if_pos (by omega), if_pos q, if_pos (by omega)]
          simp [q]
        · rw [if_neg c1, if_pos rfl, if_pos (by omega), if_neg q]
          simp [q]
      · rw [askB_none c1 c2, if_neg c1, if_neg c2]
        simp
theorem spec_asks (c : Int) (vals : List Int) (hl : vals.length = 8) (k : Nat) (hk : 10 < k) : spec_l07Asks.f k c vals = some (ons 0 (askBits c vals)) := by
  unfold spec_l07Asks.f
  have := spec_asks_loop c vals hl 8 0 [] k (by omega) (by omega) (by simp)
  simpa using this
theorem impl_asks_loop (c : Int) (vals q : List Int) (hl : vals.length = 8) : ∀ (d i x k : Nat), i + d = 8 → d < k → x < 2 ^ i →
    impl_asks.l0 k (x : Int) vals 8 (i : Int) c q = some ((x + 2 ^ i * mkN (askBits c (vals.drop i)) : Nat) : Int)
  | 0, i, x, k, hd, hk, hx => by
    obtain ⟨k, rfl⟩ : ∃ m, k = m + 1 := ⟨k - 1, by omega⟩
    simp only [impl_asks.l0]
    rw [if_neg (by omega), List.drop_eq_nil_of_le (by omega)]
    simp [askBits, mkN]
  | d + 1, i, x, k, hd, hk, hx => by
    obtain ⟨k, rfl⟩ : ∃ m, k = m + 1 := ⟨k - 1, by omega⟩
    have hi : i < vals.length := by omega
    have hp : 2 ^ i ≤ 2 ^ 7 := Nat.pow_le_pow_right (by omega) (by omega)
    have hs : shl .u32 1 (i : Int) = ((2 ^ i : Nat) : Int) := by
      have h1 : 2 ^ i ≤ 128 := by simpa using hp
      unfold shl
      rw [Int.toNat_natCast, Nat.min_eq_left (by show i ≤ 32; omega), IntKind.wrap_u32, Int.one_mul, show ((2 : Int) ^ i) = ((2 ^ i : Nat) : Int) by simp]
      omega
    have hor : Go.bits .or .u32 (x : Int) ((2 ^ i : Nat) : Int) = ((x + 2 ^ i : Nat) : Int) := by
      have h1 : 2 ^ i ≤ 128 := by simpa using hp
      rw [u32_or_nat x (2 ^ i) (by omega) (by omega), or_above hx]
    have y := impl_asks_loop c vals q hl d (i + 1) (x + 2 ^ i) k (by omega) (by omega) (by rw [Nat.pow_succ]; omega)
    have n := impl_asks_loop c vals q hl d (i + 1) x k (by omega) (by omega) (by rw [Nat.pow_succ]; omega)
    have e : vals.drop i = vals[i] :: vals.drop (i + 1) := by rw [List.drop_eq_getElem_cons hi]
    have g : mkN (askBits c (vals.drop i)) = (if askB c vals[i] = true then 1 else 0) + 2 * mkN (askBits c (vals.drop (i + 1))) := by
      rw [e]
      show (if (if askB c vals[i] = true then (1 : Int) else 0) = 1 then 1 else 0) + 2 * mkN (askBits c (vals.drop (i + 1))) = _
      cases askB c vals[i] <;> simp
    have ey : x + 2 ^ i + 2 ^ (i + 1) * mkN (askBits c (vals.drop (i + 1))) = x + 2 ^ i * (1 + 2 * mkN (askBits c (vals.drop (i + 1)))) := by
      rw [Nat.pow_succ, Nat.mul_add, Nat.mul_one, Nat.mul_assoc, Nat.add_assoc]
    have en : x + 2 ^ (i + 1) * mkN (askBits c (vals.drop (i + 1))) = x + 2 ^ i * (0 + 2 * mkN (askBits c (vals.drop (i + 1)))) := by
      rw [Nat.pow_succ, Nat.zero_add, Nat.mul_assoc]
    rw [ey] at y
    rw [en] at n
    rw [g]
    generalize mkN (askBits c (vals.drop (i + 1))) = M at y n ⊢
    simp only [impl_asks.l0]
    rw [if_pos (by omega), if_pos (by omega), if_pos (by omega), w64 (by omega) (by omega), show (i : Int) + 1 = ((i + 1 : Nat) : Int) by omega, rdG vals i hi, hs, hor, y, n]
    by_cases c1 : c = 1
    · subst c1
      rw [askB_one]
      by_cases z : 0 < vals[i]
      · rw [if_pos rfl, if_pos z]
        simp [z]
      · rw [if_pos rfl, if_neg z, if_neg (by decide)]
        simp [z]
    · by_cases c2 : c = 2
      · subst c2
        rw [askB_two]
        by_cases z : 0 ≤ vals[i]
        · rw [if_neg c1, if_pos rfl, if_pos z]
          simp [z]
        · rw [if_neg c1, if_pos rfl, if_neg z]
          simp [z]
      · rw [askB_none c1 c2, if_neg c1, if_neg c2]
        simp
theorem impl_asks_eq (c : Int) (vals : List Int) (hl : vals.length = 8) (k : Nat) (hk : 10 < k) : impl_asks.f k c vals = some ((mkN (askBits c vals) : Nat) : Int) := by
  unfold impl_asks.f
  have := impl_asks_loop c vals vals hl 8 0 0 k (by omega) (by omega) (by simp)
  rw [hl]
  simpa using this
theorem mkN_ask_lt (c : Int) (vals : List Int) (hl : vals.length = 8) : mkN (askBits c vals) < 256 := by
  have := mkN_lt (askBits c vals)
  rw [askBits_length, hl] at this
  simpa using this
/-- Every lane of a mask asks: the program's test and the reference's. -/
theorem asks_all (c : Int) (vals : List Int) (hl : vals.length = 8) (t : Nat) (ht : t < 4294967296) :
    Go.bits .andNot .u32 (t : Int) ((mkN (askBits c vals) : Nat) : Int) = 0 ↔ ∀ b ∈ bitList t, b ∈ ons 0 (askBits c vals) := by
  have hm := mkN_ask_lt c vals hl
  rw [u32_andNot_nat t _ ht (by omega)]
  have h := within_mask 32 t (mkN (askBits c vals)) ht (by omega)
  have e : ((t &&& (4294967295 - mkN (askBits c vals)) : Nat) : Int) = 0 ↔ t &&& (2 ^ 32 - 1 - mkN (askBits c vals)) = 0 := by
    rw [show (2 : Nat) ^ 32 - 1 = 4294967295 by omega]
    omega
  rw [e, h]
  constructor
  · intro h b hb
    obtain ⟨j, hj, hb1, rfl⟩ := (mem_bitList t b).1 hb
    have h1 := h j hj hb1
    rw [mkN_bit] at h1
    by_cases c1 : (askBits c vals).getD j 0 = 1
    · refine (mem_ons _ 0 _).2 ⟨j, ?_, c1, by simp⟩
      apply Nat.lt_of_not_le
      intro hge
      rw [List.getD_eq_getElem?_getD, List.getElem?_eq_none hge] at c1
      simp at c1
    · rw [if_neg c1] at h1
      omega
  · intro h j hj hb
    obtain ⟨i, hi, hg, he⟩ := (mem_ons _ 0 _).1 (h (j : Int) ((mem_bitList t _).2 ⟨j, hj, hb, rfl⟩))
    obtain rfl : j = i := by omega
    rw [mkN_bit, if_pos hg]
end Go.Proofs.YtobboonnfocalaaGreatDoor.Base
