/- The reference's word of a rising list of places. Conditions: none. -/
import Derived.Test.YtfhcnnkeokjfpaaDoorSetPureS1
import Derived.Test.YtfhcnnkeokjfpaaDoorCtlPureS1
import Derived.Test.YtfhcnnkeokjfpaaDoorPS1x1
set_option linter.unusedVariables false
set_option linter.unusedSimpArgs false
namespace Go.Proofs.YtfhcnnkeokjfpaaDoor.Base
open Go.RowKit Go.Proofs.YtfhcnnkeokjfpaaDoor.PS1 Go.Proofs.YtfhcnnkeokjfpaaDoorW.PrintWords Go.Proofs.YtfhcnnkeokjfpaaDoorW.PrintLast Go.Proofs.YtfhcnnkeokjfpaaDoorW.PrintMore

/-! ### the reference's word of a list of places -/
theorem val_bits : ∀ (N x : Nat), x < 2 ^ N → val (bitsN N x) = x
  | 0, x, h => by
    have : x = 0 := by simpa using h
    subst this
    rfl
  | N + 1, x, h => by
    rw [Nat.pow_succ] at h
    rw [bitsN, val, val_bits N (x / 2) (by omega)]
    omega
theorem drop_bits : ∀ (j N x : Nat), (bitsN N x).drop j = bitsN (N - j) (x / 2 ^ j)
  | 0, N, x => by simp
  | j + 1, 0, x => by simp [bitsN]
  | j + 1, N + 1, x => by
    rw [bitsN, List.drop_succ_cons, drop_bits j N (x / 2), Nat.div_div_eq_div_mul, Nat.mul_comm 2, ← Nat.pow_succ, show N + 1 - (j + 1) = N - j by omega]
theorem bits_01 : ∀ (N x : Nat), ∀ b ∈ bitsN N x, 0 ≤ b ∧ b ≤ 1
  | 0, x, b, h => by simp [bitsN] at h
  | N + 1, x, b, h => by
    rw [bitsN] at h
    rcases List.mem_cons.1 h with rfl | h
    · omega
    · exact bits_01 N _ b h
theorem set_bits : ∀ (N n x : Nat), n < N → x / 2 ^ n % 2 = 0 → (bitsN N x).set n 1 = bitsN N (x + 2 ^ n)
  | 0, n, x, h, _ => by omega
  | N + 1, 0, x, h, hb => by
    simp at hb
    rw [bitsN, bitsN, List.set_cons_zero, Nat.pow_zero, show (x + 1) / 2 = x / 2 by omega, show (x + 1) % 2 = 1 by omega]
    rfl
  | N + 1, n + 1, x, h, hb => by
    have hb' : x / 2 / 2 ^ n % 2 = 0 := by rw [Nat.div_div_eq_div_mul, Nat.mul_comm 2, ← Nat.pow_succ]; exact hb
    rw [bitsN, bitsN, List.set_cons_succ, set_bits N n (x / 2) (by omega) hb', Nat.pow_succ, show (x + 2 ^ n * 2) / 2 = x / 2 + 2 ^ n by omega, show (x + 2 ^ n * 2) % 2 = x % 2 by omega]
theorem spec_word (x : Nat) (hx : x < 4294967296) (k : Nat) (hk : 40 < k) : spec_l01Word.f k (bitsN 32 x) = some (x : Int) := by
  have hb : ∀ j : Nat, j ≤ 32 → 0 ≤ val ((bitsN 32 x).drop j) ∧ val ((bitsN 32 x).drop j) < 4294967296 := by
    intro j hj
    have hle := Nat.div_le_self x (2 ^ j)
    rw [drop_bits, val_bits (32 - j) (x / 2 ^ j) (by rw [Nat.div_lt_iff_lt_mul (Nat.two_pow_pos j), ← Nat.pow_add, show 32 - j + j = 32 by omega]; exact hx)]
    generalize x / 2 ^ j = y at hle
    omega
  have L := spec_word_loop (bitsN 32 x) (bitsN_length 32 x) hb (bits_01 32 x) 32 k (by omega) (by omega)
  unfold spec_l01Word.f
  rw [bitsN_length, w64 (by omega) (by omega)]
  rw [List.drop_of_length_le (by rw [bitsN_length]; omega), val_bits 32 x (by simpa using hx)] at L
  exact L
theorem inc_split : ∀ (p : List Int) (lo hi : Nat) (e : Nat) (r : List Int), inc lo hi (p ++ (e : Int) :: r) → lo ≤ e ∧ e < hi ∧ inc lo e p
  | [], lo, hi, e, r, h => ⟨by have := h.1; omega, by have := h.2.1; omega, trivial⟩
  | b :: p, lo, hi, e, r, h => by
    obtain ⟨h1, h2, h3⟩ := h
    have := inc_split p _ hi e r h3
    exact ⟨by omega, this.2.1, h1, by omega, this.2.2⟩
theorem sum_append : ∀ (p r : List Int), sumL (p ++ r) = sumL p + sumL r
  | [], r => by simp [sumL]
  | b :: p, r => by rw [List.cons_append, sumL, sumL, sum_append p r, Nat.add_assoc]
theorem spec_set_loop (l : List Int) (hl : inc 0 32 l) (hn : l.length ≤ 32) : ∀ (r p : List Int) (k : Nat), l = p ++ r → r.length + 60 < k → spec_BitsOf.l0 k l (bitsN 32 (sumL p)) (p.length : Int) = some (((sumL l : Nat) : Int), true)
  | [], p, k, h, hk => by
    obtain ⟨k, rfl⟩ : ∃ m, k = m + 1 := ⟨k - 1, by omega⟩
    rw [List.append_nil] at h
    subst h
    have := sum_bound l 0 32 (by omega) hl
    rw [spec_BitsOf.l0, if_neg (by omega), spec_word _ (by omega) k (by omega), Option.bind_some]
  | e :: r, p, k, h, hk => by
    obtain ⟨k, rfl⟩ : ∃ m, k = m + 1 := ⟨k - 1, by omega⟩
    have hlen : l.length = p.length + (r.length + 1) := by rw [h]; simp
    have he : rd l (p.length : Int) = e := by
      unfold rd
      rw [h]
      simp [List.getD_eq_getElem?_getD]
    have he0 : 0 ≤ e := by
      have hsp : ∀ (p : List Int) (lo : Nat), inc lo 32 (p ++ e :: r) → 0 ≤ e := by
        intro p
        induction p with
        | nil => intro lo h; have := h.1; omega
        | cons b p ih => intro lo h; exact ih _ h.2.2
      exact hsp p 0 (by rw [← h]; exact hl)
    obtain ⟨i, rfl⟩ := Int.eq_ofNat_of_zero_le he0
    rw [h] at hl
    obtain ⟨h1, h2, h3⟩ := inc_split p 0 32 i r hl
    have hs := sum_bound p 0 i (by omega) h3
    have hz : sumL p / 2 ^ i = 0 := Nat.div_eq_of_lt (by omega)
    have hrd : rd (bitsN 32 (sumL p)) (i : Int) = 0 := by
      have := rd_bits 32 (sumL p) i h2
      unfold rd
      rw [Int.toNat_natCast, this, hz]
      rfl
    have hset := set_bits 32 i (sumL p) h2 (by rw [hz])
    have ih := spec_set_loop l (by rw [h]; exact hl) hn r (p ++ [(i : Int)]) k (by rw [h, List.append_assoc, List.singleton_append]) (by simp at hk; omega)
    rw [List.length_append, List.length_singleton, sum_append] at ih
    have hs1 : sumL [(i : Int)] = 2 ^ i := by simp [sumL]
    rw [hs1] at ih
    rw [spec_BitsOf.l0, if_pos (by omega), if_pos (by omega), he, if_neg (by omega), if_neg (by omega), if_pos (by omega), if_pos (by rw [bitsN_length]; omega), hrd, if_neg (by decide), Int.toNat_natCast, hset, w64 (by omega) (by omega), show (p.length : Int) + 1 = ((p.length + 1 : Nat) : Int) by omega, ih]
theorem spec_setOf (l : List Int) (hl : inc 0 32 l) (hn : l.length ≤ 32) (k : Nat) (hk : 100 < k) : spec_BitsOf.f k l = some (((sumL l : Nat) : Int), true) := by
  unfold spec_BitsOf.f
  rw [if_pos (by decide)]
  have := spec_set_loop l hl hn l [] k rfl (by omega)
  rw [show bitsN 32 (sumL []) = List.replicate 32 0 by decide] at this
  exact this
end Go.Proofs.YtfhcnnkeokjfpaaDoor.Base
