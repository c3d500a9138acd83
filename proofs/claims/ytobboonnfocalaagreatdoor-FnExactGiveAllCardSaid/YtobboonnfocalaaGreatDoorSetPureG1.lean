/- Words as lists of places: the lowest places taken, the free places, the places joined. Conditions: none. -/
import Derived.Test.YtobboonnfocalaaGreatDoorSizePureG1
import Derived.Test.YtobboonnfocalaaGreatDoorWordPureG1
import Derived.Laws.BitsAllLaws

set_option linter.unusedVariables false
set_option linter.unusedSimpArgs false
namespace Go.Proofs.YtobboonnfocalaaGreatDoor.Base
open Go.RowKit Go.Proofs.YtobboonnfocalaaGreatDoor.PG1 Go.Proofs.YtobboonnfocalaaGreatDoorW.PrintWords Go.Proofs.YtobboonnfocalaaGreatDoorW.PrintLast Go.Proofs.YtobboonnfocalaaGreatDoorW.PrintMore

/-- The word of a list of places. -/
def sumL : List Int → Nat
  | [] => 0
  | b :: r => 2 ^ b.toNat + sumL r
/-- Places in order, from lo on, below hi. -/
def inc : Nat → Nat → List Int → Prop
  | _, _, [] => True
  | lo, hi, b :: r => (lo : Int) ≤ b ∧ b < (hi : Int) ∧ inc (b.toNat + 1) hi r
theorem inc_mono {lo lo' hi : Nat} {l : List Int} (h : inc lo hi l) (hl : lo' ≤ lo) : inc lo' hi l := by
  cases l with
  | nil => trivial
  | cons b r => exact ⟨by have := h.1; omega, h.2⟩
theorem inc_mono_hi {hi hi' : Nat} (hh : hi ≤ hi') : ∀ (l : List Int) (lo : Nat), inc lo hi l → inc lo hi' l
  | [], _, _ => trivial
  | b :: r, lo, h => ⟨h.1, by have := h.2.1; omega, inc_mono_hi hh r _ h.2.2⟩
theorem inc_ons : ∀ (N i x : Nat), inc i (i + N) (ons i (bitsN N x))
  | 0, _, _ => trivial
  | N + 1, i, x => by
    have ih := inc_ons N (i + 1) (x / 2)
    rw [bitsN, ons]
    rw [show i + 1 + N = i + (N + 1) by omega] at ih
    by_cases c : ((x % 2 : Nat) : Int) = 1
    · rw [if_pos c]
      exact ⟨Int.le_refl _, by omega, by rw [Int.toNat_natCast]; exact ih⟩
    · rw [if_neg c, List.nil_append]
      exact inc_mono ih (by omega)
theorem inc_take {lo hi : Nat} : ∀ {l : List Int} (n : Nat), inc lo hi l → inc lo hi (l.take n) := by
  intro l
  induction l generalizing lo with
  | nil => intro n _; simp [inc]
  | cons b r ih =>
    intro n h
    cases n with
    | zero => trivial
    | succ n => exact ⟨h.1, h.2.1, ih n h.2.2⟩
theorem sum_bound : ∀ (l : List Int) (lo hi : Nat), lo ≤ hi → inc lo hi l → sumL l + 2 ^ lo ≤ 2 ^ hi
  | [], lo, hi, hl, _ => by
    have := Nat.pow_le_pow_right (n := 2) (by omega) hl
    simp [sumL]; exact this
  | b :: r, lo, hi, hl, h => by
    obtain ⟨h1, h2, h3⟩ := h
    obtain ⟨m, rfl⟩ := Int.eq_ofNat_of_zero_le (show 0 ≤ b by omega)
    simp only [Int.toNat_natCast] at h3
    have ih := sum_bound r (m + 1) hi (by omega) h3
    have hp := Nat.pow_le_pow_right (n := 2) (by omega) (show lo ≤ m by omega)
    rw [sumL, Int.toNat_natCast]
    rw [Nat.pow_succ] at ih
    omega
theorem sum_div : ∀ (l : List Int) (lo hi : Nat), inc lo hi l → ∃ q, sumL l = 2 ^ lo * q
  | [], lo, hi, _ => ⟨0, by simp [sumL]⟩
  | b :: r, lo, hi, h => by
    obtain ⟨h1, h2, h3⟩ := h
    obtain ⟨m, rfl⟩ := Int.eq_ofNat_of_zero_le (show 0 ≤ b by omega)
    simp only [Int.toNat_natCast] at h3
    obtain ⟨q, hq⟩ := sum_div r (m + 1) hi h3
    obtain ⟨d, rfl⟩ : ∃ d, m = lo + d := ⟨m - lo, by omega⟩
    refine ⟨2 ^ d + 2 ^ (d + 1) * q, ?_⟩
    rw [sumL, Int.toNat_natCast, hq, Nat.mul_add, ← Nat.pow_add, ← Nat.mul_assoc, ← Nat.pow_add, Nat.add_assoc]
theorem two_half {i q s : Nat} (h : 2 ^ i * q = 2 ^ (i + 1) * s) : q = 2 * s := by
  rw [Nat.pow_succ, Nat.mul_assoc] at h
  exact Nat.eq_of_mul_eq_mul_left (Nat.two_pow_pos i) h
theorem ons_sum : ∀ (N i : Nat) (l : List Int) (q : Nat), inc i (i + N) l → sumL l = 2 ^ i * q → ons i (bitsN N q) = l
  | 0, i, l, q, h, hq => by
    cases l with
    | nil => rfl
    | cons b r => have := h.1; have := h.2.1; omega
  | N + 1, i, l, q, h, hq => by
    have hp := Nat.two_pow_pos i
    cases l with
    | nil =>
      have : q = 0 := by
        rcases Nat.mul_eq_zero.1 (show 2 ^ i * q = 0 from hq.symm) with h | h
        · omega
        · exact h
      rw [this, ons_zero]
    | cons b r =>
      obtain ⟨h1, h2, h3⟩ := h
      obtain ⟨m, rfl⟩ := Int.eq_ofNat_of_zero_le (show 0 ≤ b by omega)
      simp only [Int.toNat_natCast] at h3
      by_cases e : m = i
      · subst e
        obtain ⟨s, hs⟩ := sum_div r (m + 1) _ h3
        rw [sumL, Int.toNat_natCast, hs] at hq
        have hq2 : q = 1 + 2 * s := by
          have : 2 ^ m * (1 + 2 * s) = 2 ^ m * q := by rw [← hq, Nat.mul_add, Nat.mul_one, Nat.pow_succ, Nat.mul_assoc]
          exact (Nat.eq_of_mul_eq_mul_left hp this).symm
        have ih := ons_sum N (m + 1) r s (by rw [show m + 1 + N = m + (N + 1) by omega]; exact h3) hs
        rw [bitsN, ons, if_pos (by omega), show q / 2 = s by omega, ih]
        rfl
      · have h' : inc (i + 1) (i + 1 + N) ((m : Int) :: r) := ⟨by omega, by omega, by rw [show i + 1 + N = i + (N + 1) by omega]; simpa using h3⟩
        obtain ⟨s, hs⟩ := sum_div _ _ _ h'
        have hq2 := two_half (hq.symm.trans hs)
        have ih := ons_sum N (i + 1) _ s h' hs
        rw [bitsN, ons, if_neg (by omega), show q / 2 = s by omega, ih]
        rfl
theorem sum_ons : ∀ (N i x : Nat), x < 2 ^ N → sumL (ons i (bitsN N x)) = 2 ^ i * x
  | 0, i, x, h => by
    have : x = 0 := by simpa using h
    subst this
    simp [bitsN, ons, sumL]
  | N + 1, i, x, h => by
    have ih := sum_ons N (i + 1) (x / 2) (by rw [Nat.pow_succ] at h; omega)
    have e : 2 ^ i * x = 2 ^ i * (x % 2) + 2 ^ (i + 1) * (x / 2) := by
      rw [Nat.pow_succ, Nat.mul_assoc, ← Nat.mul_add, Nat.mod_add_div]
    rw [bitsN, ons, e]
    by_cases c : ((x % 2 : Nat) : Int) = 1
    · rw [if_pos c, List.singleton_append, sumL, ih, Int.toNat_natCast, show x % 2 = 1 by omega, Nat.mul_one]
    · rw [if_neg c, List.nil_append, ih, show x % 2 = 0 by omega, Nat.mul_zero, Nat.zero_add]
theorem bitList_sum {l : List Int} (h : inc 0 32 l) : bitList (sumL l) = l := ons_sum 32 0 l _ (by simpa using h) (by simp)
theorem sum_bitList {x : Nat} (h : x < 4294967296) : sumL (bitList x) = x := by
  have := sum_ons 32 0 x (by simpa using h)
  unfold bitList
  simpa using this
theorem inc_bitList (x : Nat) : inc 0 32 (bitList x) := by
  have := inc_ons 32 0 x
  unfold bitList
  simpa using this

/-! ### and, or, bit by bit -/
theorem land_split (i a b : Nat) : a &&& b = 2 ^ i * (a / 2 ^ i &&& b / 2 ^ i) + (a % 2 ^ i &&& b % 2 ^ i) := by
  rw [← Nat.and_div_two_pow, ← Nat.and_mod_two_pow]
  exact (Nat.div_add_mod _ _).symm
theorem comp : ∀ (n q : Nat), q < 2 ^ n → q &&& (2 ^ n - 1 - q) = 0
  | 0, q, h => by
    have : q = 0 := by simpa using h
    subst this
    rfl
  | n + 1, q, h => by
    rw [Nat.pow_succ] at h ⊢
    have hp := Nat.two_pow_pos n
    have ih := comp n (q / 2) (by omega)
    rw [land_split 1, Nat.pow_one, show (2 ^ n * 2 - 1 - q) / 2 = 2 ^ n - 1 - q / 2 by omega, ih]
    rcases Nat.mod_two_eq_zero_or_one q with e | e
    · rw [e, Nat.zero_and]
    · rw [e, show (2 ^ n * 2 - 1 - q) % 2 = 0 by omega, Nat.and_zero]
theorem low_and {i q : Nat} (hi : i < 32) (hx : 2 ^ i * (2 * q + 1) < 4294967296) : (2 ^ i * (2 * q + 1)) &&& (4294967296 - 2 ^ i * (2 * q + 1)) = 2 ^ i := by
  have hp := Nat.two_pow_pos i
  obtain ⟨e, he⟩ : ∃ e, 32 = i + (e + 1) := ⟨31 - i, by omega⟩
  have hN : (4294967296 : Nat) = 2 ^ i * (2 ^ e * 2) := by rw [← Nat.pow_succ, ← Nat.pow_add, ← he]
  have hq : 2 * q + 1 < 2 ^ e * 2 := by
    rw [hN] at hx
    exact Nat.lt_of_mul_lt_mul_left hx
  have hs : 4294967296 - 2 ^ i * (2 * q + 1) = 2 ^ i * (2 * (2 ^ e - 1 - q) + 1) := by
    rw [hN, ← Nat.mul_sub]
    congr 1
    omega
  have h0 := comp e q (by omega)
  rw [hs, land_split i, Nat.mul_div_cancel_left _ hp, Nat.mul_div_cancel_left _ hp, Nat.mul_mod_right, Nat.zero_and, Nat.add_zero, land_split 1, Nat.pow_one, show (2 * q + 1) / 2 = q by omega, show (2 * (2 ^ e - 1 - q) + 1) / 2 = 2 ^ e - 1 - q by omega, h0, show (2 * q + 1) % 2 = 1 by omega, show (2 * (2 ^ e - 1 - q) + 1) % 2 = 1 by omega]
  simp
theorem low_rest {i q : Nat} : (2 ^ i * (2 * q + 1)) &&& (2 ^ i * (2 * q + 1) - 1) = 2 ^ i * (2 * q) := by
  have hp := Nat.two_pow_pos i
  have hs : 2 ^ i * (2 * q + 1) - 1 = 2 ^ i * (2 * q) + (2 ^ i - 1) := by rw [Nat.mul_add, Nat.mul_one]; omega
  rw [land_split i, Nat.mul_div_cancel_left _ hp, Nat.mul_mod_right, Nat.zero_and, Nat.add_zero, hs, Nat.mul_add_div hp, Nat.div_eq_of_lt (show 2 ^ i - 1 < 2 ^ i by omega)]
  simp only [Nat.add_zero]
  congr 1
  rw [land_split 1, Nat.pow_one, show (2 * q + 1) / 2 = q by omega, show (2 * q) / 2 = q by omega, Nat.and_self, show (2 * q) % 2 = 0 by omega, Nat.and_zero, Nat.add_zero]
theorem lor_split (a b : Nat) : a ||| b = 2 * (a / 2 ||| b / 2) + (a % 2 ||| b % 2) := by
  have h1 := Nat.or_div_two_pow (a := a) (b := b) (n := 1)
  have h2 := Nat.or_mod_two_pow (a := a) (b := b) (n := 1)
  rw [Nat.pow_one] at h1 h2
  rw [← h1, ← h2]
  exact (Nat.div_add_mod _ _).symm
theorem or_above {i a : Nat} (h : a < 2 ^ i) : a ||| 2 ^ i = a + 2 ^ i := by
  have := Nat.two_pow_add_eq_or_of_lt h 1
  rw [Nat.mul_one] at this
  rw [Nat.or_comm, ← this, Nat.add_comm]

/-- The places of the zeros. -/
def zs : Nat → List Int → List Int
  | _, [] => []
  | i, b :: r => (if b = 0 then [(i : Int)] else []) ++ zs (i + 1) r
theorem zs_ons : ∀ (N i x : Nat), x < 2 ^ N → zs i (bitsN N x) = ons i (bitsN N (2 ^ N - 1 - x))
  | 0, _, _, _ => rfl
  | N + 1, i, x, h => by
    rw [Nat.pow_succ] at h ⊢
    have hp := Nat.two_pow_pos N
    have ih := zs_ons N (i + 1) (x / 2) (by omega)
    rw [bitsN, bitsN, zs, ons, ih, show (2 ^ N * 2 - 1 - x) / 2 = 2 ^ N - 1 - x / 2 by omega]
    congr 1
    rcases Nat.mod_two_eq_zero_or_one x with e | e
    · rw [if_pos (by omega), if_pos (by omega)]
    · rw [if_neg (by omega), if_neg (by omega)]
theorem or_free : ∀ (N i m : Nat) (l : List Int) (q : Nat), inc i (i + N) l → (∀ b ∈ l, b ∈ zs i (bitsN N m)) → sumL l = 2 ^ i * q → m ||| q = m + q
  | 0, i, m, l, q, h, hz, hq => by
    have hp := Nat.two_pow_pos i
    have : l = [] := by
      cases l with
      | nil => rfl
      | cons b r => have := h.1; have := h.2.1; omega
    subst this
    have : q = 0 := by
      rcases Nat.mul_eq_zero.1 (show 2 ^ i * q = 0 from hq.symm) with h | h
      · omega
      · exact h
    subst this
    simp
  | N + 1, i, m, l, q, h, hz, hq => by
    have hp := Nat.two_pow_pos i
    have zr : ∀ (l : List Int) (j : Nat) (b : Int), b ∈ zs j l → (j : Int) ≤ b := by
      intro l
      induction l with
      | nil => intro j b hb; simp [zs] at hb
      | cons x r ih =>
        intro j b hb
        unfold zs at hb
        rcases List.mem_append.1 hb with hb | hb
        · split at hb
          · simp at hb; omega
          · simp at hb
        · have := ih (j + 1) b hb; omega
    cases l with
    | nil =>
      have : q = 0 := by
        rcases Nat.mul_eq_zero.1 (show 2 ^ i * q = 0 from hq.symm) with h | h
        · omega
        · exact h
      subst this
      simp
    | cons b r =>
      obtain ⟨h1, h2, h3⟩ := h
      obtain ⟨t, rfl⟩ := Int.eq_ofNat_of_zero_le (show 0 ≤ b by omega)
      simp only [Int.toNat_natCast] at h3
      have rest : ∀ b, b ∈ zs i (bitsN (N + 1) m) → (i : Int) < b → b ∈ zs (i + 1) (bitsN N (m / 2)) := by
        intro b hb hlt
        rw [bitsN, zs] at hb
        rcases List.mem_append.1 hb with hb | hb
        · split at hb
          · simp at hb; omega
          · simp at hb
        · exact hb
      have above : ∀ (r : List Int) (lo hi : Nat), inc lo hi r → ∀ b ∈ r, (lo : Int) ≤ b := by
        intro r
        induction r with
        | nil => intro lo hi _ b hb; simp at hb
        | cons x r ih =>
          intro lo hi hh b hb
          rcases List.mem_cons.1 hb with rfl | hb
          · exact hh.1
          · have := ih _ _ hh.2.2 b hb; have := hh.1; omega
      by_cases e : t = i
      · subst e
        obtain ⟨s, hs⟩ := sum_div r (t + 1) _ h3
        rw [sumL, Int.toNat_natCast, hs] at hq
        have hq2 : q = 1 + 2 * s := by
          have : 2 ^ t * (1 + 2 * s) = 2 ^ t * q := by rw [← hq, Nat.mul_add, Nat.mul_one, Nat.pow_succ, Nat.mul_assoc]
          exact (Nat.eq_of_mul_eq_mul_left hp this).symm
        have ih := or_free N (t + 1) (m / 2) r s (by rw [show t + 1 + N = t + (N + 1) by omega]; exact h3) (fun b hb => rest b (hz b (List.mem_cons_of_mem _ hb)) (by have := above r _ _ h3 b hb; omega)) hs
        have hm0 : m % 2 = 0 := by
          have := hz (t : Int) List.mem_cons_self
          rw [bitsN, zs] at this
          rcases List.mem_append.1 this with h | h
          · split at h
            · omega
            · simp at h
          · have := zr _ _ _ h; omega
        rw [lor_split, show q / 2 = s by omega, ih, hm0, show q % 2 = 1 by omega]
        simp
        omega
      · have h' : inc (i + 1) (i + 1 + N) ((t : Int) :: r) := ⟨by omega, by omega, by rw [show i + 1 + N = i + (N + 1) by omega]; simpa using h3⟩
        obtain ⟨s, hs⟩ := sum_div _ _ _ h'
        have hq2 := two_half (hq.symm.trans hs)
        have ih := or_free N (i + 1) (m / 2) _ s h' (fun b hb => rest b (hz b hb) (by have := above _ _ _ h' b hb; omega)) hs
        rw [lor_split, show q / 2 = s by omega, ih, show q % 2 = 0 by omega, Nat.or_zero]
        omega
theorem take_bits : ∀ (p N x : Nat), p ≤ N → (bitsN N x).take p = bitsN p x
  | 0, N, x, _ => by simp [bitsN]
  | p + 1, 0, x, h => by omega
  | p + 1, N + 1, x, h => by rw [bitsN, bitsN, List.take_succ_cons, take_bits p N (x / 2) (by omega)]
theorem ons_high : ∀ (p q i x : Nat), x < 2 ^ p → ons i (bitsN (p + q) x) = ons i (bitsN p x)
  | 0, q, i, x, h => by
    have : x = 0 := by simpa using h
    subst this
    rw [Nat.zero_add, ons_zero]
    rfl
  | p + 1, q, i, x, h => by
    rw [Nat.pow_succ] at h
    rw [show p + 1 + q = p + q + 1 by omega, bitsN, bitsN, ons, ons, ons_high p q (i + 1) (x / 2) (by omega)]
end Go.Proofs.YtobboonnfocalaaGreatDoor.Base
