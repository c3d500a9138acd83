/- What Claim comes to, the program's and the reference's: the lowest free places of a page, joined to its word. Conditions: none. -/
import Derived.Test.YtmnjppfebaeoiaaSetPureC2
import Derived.Test.YtmnjppfebaeoiaaOnesPureC2
import Derived.Test.YtmnjppfebaeoiaaFreeLowC2
import Derived.Test.YtmnjppfebaeoiaaPC2x1
import Derived.Test.YtmnjppfebaeoiaaPC2x2
set_option linter.unusedVariables false
set_option linter.unusedSimpArgs false
namespace Go.Proofs.Ytmnjppfebaeoiaa.Base
open Go.RowKit Go.Proofs.Ytmnjppfebaeoiaa.PC2 Go.Proofs.YtmnjppfebaeoiaaW.PrintWords Go.Proofs.YtmnjppfebaeoiaaW.PrintLast Go.Proofs.YtmnjppfebaeoiaaW.PrintMore

/-! ### the program's taking of the lowest places -/
theorem take_loop : ∀ (l : List Int) (lo : Nat) (n : Int) (out k : Nat), inc lo 32 l → lo ≤ 32 → -9223372036854775808 ≤ n ∧ n ≤ 9223372036854775807 → out < 2 ^ lo → l.length < k → impl_TakeLow.l0 k (sumL l : Nat) n (out : Nat) = some ((out + sumL (l.take n.toNat) : Nat) : Int)
  | [], lo, n, out, k, h, hlo, hn, ho, hk => by
    obtain ⟨k, rfl⟩ : ∃ m, k = m + 1 := ⟨k - 1, by omega⟩
    simp only [impl_TakeLow.l0, sumL, List.take_nil]
    (repeat' split) <;> first | rfl | omega
  | b :: r, lo, n, out, k, h, hlo, hn, ho, hk => by
    obtain ⟨k, rfl⟩ : ∃ m, k = m + 1 := ⟨k - 1, by omega⟩
    have hB := sum_bound _ lo 32 hlo h
    obtain ⟨h1, h2, h3⟩ := h
    obtain ⟨i, rfl⟩ := Int.eq_ofNat_of_zero_le (show 0 ≤ b by omega)
    simp only [Int.toNat_natCast] at h3
    obtain ⟨q, hq⟩ := sum_div r (i + 1) _ h3
    have hp := Nat.two_pow_pos i
    have hX : sumL ((i : Int) :: r) = 2 ^ i * (2 * q + 1) := by
      rw [sumL, Int.toNat_natCast, hq, Nat.pow_succ, Nat.mul_assoc, Nat.mul_add, Nat.mul_one, Nat.add_comm]
    have hr : sumL r = 2 ^ i * (2 * q) := by rw [hq, Nat.pow_succ, Nat.mul_assoc]
    have hX0 : 0 < sumL ((i : Int) :: r) := by rw [hX]; exact Nat.mul_pos hp (by omega)
    have hX2 : sumL ((i : Int) :: r) < 4294967296 := by
      have := Nat.two_pow_pos lo
      omega
    have hlast : sumL ((i : Int) :: r) = 2 ^ i + sumL r := by rw [sumL, Int.toNat_natCast]
    have eA : sumL ((i : Int) :: r) &&& (sumL ((i : Int) :: r) - 1) = sumL r := by rw [hX, hr]; exact low_rest
    have eB : sumL ((i : Int) :: r) &&& (4294967296 - sumL ((i : Int) :: r)) = 2 ^ i := by rw [hX]; exact low_and (by omega) (by rw [← hX]; exact hX2)
    have hil : 2 ^ lo ≤ 2 ^ i := Nat.pow_le_pow_right (by omega) (by omega)
    have hi32 : 2 ^ i < 4294967296 := by omega
    generalize sumL ((i : Int) :: r) = X at *
    rw [impl_TakeLow.l0]
    by_cases c : n > 0
    · have e1 : ((X : Int) - 1) % 4294967296 = ((X - 1 : Nat) : Int) := by omega
      have e2 : (-(X : Int)) % 4294967296 = ((4294967296 - X : Nat) : Int) := by omega
      have hT : ((i : Int) :: r).take n.toNat = (i : Int) :: r.take (n - 1).toNat := by
        rw [show n.toNat = (n - 1).toNat + 1 by omega, List.take_succ_cons]
      have ih := take_loop r (i + 1) (n - 1) (out + 2 ^ i) k h3 (by omega) (by omega) (by rw [Nat.pow_succ]; omega) (by simp at hk; omega)
      rw [if_pos c, if_neg (by omega), e1, e2, u32_and_nat X (X - 1) hX2 (by omega), u32_and_nat X (4294967296 - X) hX2 (by omega), eA, eB, u32_or_nat out (2 ^ i) (by omega) hi32, or_above (by omega), w64 (by omega) (by omega), ih, hT, sumL, Int.toNat_natCast, Nat.add_assoc]
    · rw [if_neg c, show n.toNat = 0 by omega, List.take_zero, sumL, Nat.add_zero]
theorem impl_takeLow (x : Nat) (n : Int) (hx : x < 4294967296) (hn : -9223372036854775808 ≤ n ∧ n ≤ 9223372036854775807) (k : Nat) (hk : 40 < k) : impl_TakeLow.f k (x : Int) n = some ((sumL ((bitList x).take n.toNat) : Nat) : Int) := by
  unfold impl_TakeLow.f
  have hl := bitList_len x
  have := take_loop (bitList x) 0 n 0 k (inc_bitList x) (by omega) hn (by simp) (by omega)
  rw [sum_bitList hx, Nat.zero_add] at this
  exact this
/-- The numbers of places in a page. -/
def pg (p : Nat) : Prop := p = 16 ∨ p = 8 ∨ p = 4 ∨ p = 2 ∨ p = 1
theorem xor_full : ∀ (n q : Nat), q < 2 ^ n → (2 ^ n - 1) ^^^ q = 2 ^ n - 1 - q
  | 0, q, h => by
    have : q = 0 := by simpa using h
    subst this
    rfl
  | n + 1, q, h => by
    rw [Nat.pow_succ] at h ⊢
    have hp := Nat.two_pow_pos n
    have ih := xor_full n (q / 2) (by omega)
    have h1 := Nat.xor_div_two_pow (a := 2 ^ n * 2 - 1) (b := q) (n := 1)
    have h2 := Nat.xor_mod_two_pow (a := 2 ^ n * 2 - 1) (b := q) (n := 1)
    rw [Nat.pow_one] at h1 h2
    rw [show (2 ^ n * 2 - 1) / 2 = 2 ^ n - 1 by omega, ih] at h1
    rw [show (2 ^ n * 2 - 1) % 2 = 1 by omega] at h2
    have h3 : (1 ^^^ q % 2) = 1 - q % 2 := by
      rcases Nat.mod_two_eq_zero_or_one q with e | e <;> rw [e] <;> rfl
    rw [h3] at h2
    omega
theorem impl_mask (p : Nat) (hp : pg p) : impl_MaskOf.f (p : Int) = some ((2 ^ p - 1 : Nat) : Int) := by
  rcases hp with rfl | rfl | rfl | rfl | rfl <;> (unfold impl_MaskOf.f; rw [within_ctl]; simp [shl, IntKind.bits, IntKind.wrap_u32])
theorem free_bits (p m : Nat) (hp : pg p) (hm : m < 2 ^ p) : (4294967295 - m) &&& (2 ^ p - 1) = 2 ^ p - 1 - m := by
  rw [Nat.and_two_pow_sub_one_eq_mod]
  rcases hp with rfl | rfl | rfl | rfl | rfl <;> simp at hm ⊢ <;> omega
theorem pg_le {p : Nat} (hp : pg p) : p ≤ 16 ∧ 2 ^ p ≤ 65536 := by
  rcases hp with rfl | rfl | rfl | rfl | rfl <;> decide
/-- The free places of a page. -/
def free (p m : Nat) : List Int := bitList (2 ^ p - 1 - m)
theorem impl_freeLow (p m : Nat) (n : Int) (hp : pg p) (hm : m < 2 ^ p) (hn : -9223372036854775808 ≤ n ∧ n ≤ 9223372036854775807) (k : Nat) (hk : 40 < k) : impl_FreeLow.f k (m : Int) (p : Int) n = some ((sumL ((free p m).take n.toNat) : Nat) : Int) := by
  have hl := pg_le hp
  have hx : (if IntKind.u32.signed = true then -1 else IntKind.u32.max) = ((4294967295 : Nat) : Int) := by decide
  unfold impl_FreeLow.f free
  rw [within_ctl, Option.bind_some, decide_eq_true (by omega), if_pos rfl, impl_mask p hp, Option.bind_some, hx, u32_xor_nat _ m (by omega) (by omega), show (4294967295 ^^^ m) = 4294967295 - m from xor_full 32 m (by omega), u32_and_nat _ _ (by omega) (by omega), free_bits p m hp hm]
  exact impl_takeLow _ n (by omega) hn k hk
theorem spec_free_loop (p : Nat) (hp : p ≤ 32) (l : List Int) (hl : l.length = 32) : ∀ (d i : Nat) (acc : List Int) (k : Nat), i + d = p → 2 * d + 2 < k → acc.length ≤ i → spec_l02Free.l0 k (p : Int) acc l (i : Int) = some (acc ++ zs i ((l.drop i).take d))
  | 0, i, acc, k, hd, hk, ha => by
    obtain ⟨k, rfl⟩ : ∃ m, k = m + 2 := ⟨k - 2, by omega⟩
    rw [spec_l02Free.l0, if_neg (by omega), spec_l02Free.j1, if_neg (by decide), List.take_zero, zs, List.append_nil]
  | d + 1, i, acc, k, hd, hk, ha => by
    obtain ⟨k, rfl⟩ : ∃ m, k = m + 2 := ⟨k - 2, by omega⟩
    have hi : i < l.length := by omega
    have e : rd l (i : Int) = l[i] := by unfold rd; simp [List.getD_eq_getElem?_getD, hi]
    have hal : acc.length < 17592186044416 := by omega
    rw [spec_l02Free.l0, if_pos (by omega), spec_l02Free.j1, if_pos (decide_eq_true (by omega)), if_pos (by omega), if_pos (by omega), e, w64 (by omega) (by omega), show (i : Int) + 1 = ((i + 1 : Nat) : Int) by omega, List.drop_eq_getElem_cons hi, List.take_succ_cons, zs]
    by_cases c : l[i] = 0
    · rw [if_pos c, if_pos hal, if_pos c, spec_free_loop p hp l hl d (i + 1) _ k (by omega) (by omega) (by simp; omega), List.append_assoc]
    · rw [if_neg c, if_neg c, spec_free_loop p hp l hl d (i + 1) _ k (by omega) (by omega) (by omega), List.nil_append]
theorem spec_free (p m : Nat) (hp : pg p) (hm : m < 2 ^ p) (k : Nat) (hk : 80 < k) : spec_l02Free.f k (m : Int) (p : Int) = some (free p m) := by
  have hl := pg_le hp
  unfold spec_l02Free.f
  rw [spec_bits m (by omega) k (by omega), Option.bind_some]
  have := spec_free_loop p (by omega) (bitsN 32 m) (bitsN_length 32 m) p 0 [] k (by omega) (by omega) (by simp)
  rw [List.drop_zero, take_bits p 32 m (by omega), zs_ons p 0 m hm, List.nil_append] at this
  have e : ons 0 (bitsN p (2 ^ p - 1 - m)) = free p m := by
    have := ons_high p (32 - p) 0 (2 ^ p - 1 - m) (by have := Nat.two_pow_pos p; omega)
    unfold free bitList
    rw [← this, show p + (32 - p) = 32 by omega]
  rw [e] at this
  exact this
theorem free_zs (p m : Nat) (hp : pg p) (hm : m < 2 ^ p) : ∀ b ∈ free p m, b ∈ zs 0 (bitsN p m) := by
  intro b hb
  have hl := pg_le hp
  rw [zs_ons p 0 m hm]
  have := ons_high p (32 - p) 0 (2 ^ p - 1 - m) (by have := Nat.two_pow_pos p; omega)
  rw [← this, show p + (32 - p) = 32 by omega]
  exact hb
theorem inc_free (p m : Nat) (hp : pg p) : inc 0 p (free p m) := by
  have hl := pg_le hp
  have := ons_high p (32 - p) 0 (2 ^ p - 1 - m) (by have := Nat.two_pow_pos p; omega)
  rw [show p + (32 - p) = 32 by omega] at this
  unfold free bitList
  rw [this]
  have := inc_ons p 0 (2 ^ p - 1 - m)
  simpa using this

/-! ### the reference's word of a list of places -/
theorem val_bits : ∀ (N x : Nat), x < 2 ^ N → val (bitsN N x) = x
  | 0, x, h => by
    have : x = 0 := by simpa using h
    subst this
    rfl
  | N + 1, x, h => by
    rw [Nat.pow_succ] at h
    rw [bitsN, val, val_bits N (x / 2) (by omega)]
    omega
theorem drop_bits : ∀ (j N x : Nat), (bitsN N x).drop j = bitsN (N - j) (x / 2 ^ j)
  | 0, N, x => by simp
  | j + 1, 0, x => by simp [bitsN]
  | j + 1, N + 1, x => by
    rw [bitsN, List.drop_succ_cons, drop_bits j N (x / 2), Nat.div_div_eq_div_mul, Nat.mul_comm 2, ← Nat.pow_succ, show N + 1 - (j + 1) = N - j by omega]
theorem bits_01 : ∀ (N x : Nat), ∀ b ∈ bitsN N x, 0 ≤ b ∧ b ≤ 1
  | 0, x, b, h => by simp [bitsN] at h
  | N + 1, x, b, h => by
    rw [bitsN] at h
    rcases List.mem_cons.1 h with rfl | h
    · omega
    · exact bits_01 N _ b h
theorem set_bits : ∀ (N n x : Nat), n < N → x / 2 ^ n % 2 = 0 → (bitsN N x).set n 1 = bitsN N (x + 2 ^ n)
  | 0, n, x, h, _ => by omega
  | N + 1, 0, x, h, hb => by
    simp at hb
    rw [bitsN, bitsN, List.set_cons_zero, Nat.pow_zero, show (x + 1) / 2 = x / 2 by omega, show (x + 1) % 2 = 1 by omega]
    rfl
  | N + 1, n + 1, x, h, hb => by
    have hb' : x / 2 / 2 ^ n % 2 = 0 := by rw [Nat.div_div_eq_div_mul, Nat.mul_comm 2, ← Nat.pow_succ]; exact hb
    rw [bitsN, bitsN, List.set_cons_succ, set_bits N n (x / 2) (by omega) hb', Nat.pow_succ, show (x + 2 ^ n * 2) / 2 = x / 2 + 2 ^ n by omega, show (x + 2 ^ n * 2) % 2 = x % 2 by omega]
theorem spec_word (x : Nat) (hx : x < 4294967296) (k : Nat) (hk : 40 < k) : spec_l01Word.f k (bitsN 32 x) = some (x : Int) := by
  have hb : ∀ j : Nat, j ≤ 32 → 0 ≤ val ((bitsN 32 x).drop j) ∧ val ((bitsN 32 x).drop j) < 4294967296 := by
    intro j hj
    have hle := Nat.div_le_self x (2 ^ j)
    rw [drop_bits, val_bits (32 - j) (x / 2 ^ j) (by rw [Nat.div_lt_iff_lt_mul (Nat.two_pow_pos j), ← Nat.pow_add, show 32 - j + j = 32 by omega]; exact hx)]
    generalize x / 2 ^ j = y at hle
    omega
  have L := spec_word_loop (bitsN 32 x) (bitsN_length 32 x) hb (bits_01 32 x) 32 k (by omega) (by omega)
  unfold spec_l01Word.f
  rw [bitsN_length, w64 (by omega) (by omega)]
  rw [List.drop_of_length_le (by rw [bitsN_length]; omega), val_bits 32 x (by simpa using hx)] at L
  exact L
theorem inc_split : ∀ (p : List Int) (lo hi : Nat) (e : Nat) (r : List Int), inc lo hi (p ++ (e : Int) :: r) → lo ≤ e ∧ e < hi ∧ inc lo e p
  | [], lo, hi, e, r, h => ⟨by have := h.1; omega, by have := h.2.1; omega, trivial⟩
  | b :: p, lo, hi, e, r, h => by
    obtain ⟨h1, h2, h3⟩ := h
    have := inc_split p _ hi e r h3
    exact ⟨by omega, this.2.1, h1, by omega, this.2.2⟩
theorem sum_append : ∀ (p r : List Int), sumL (p ++ r) = sumL p + sumL r
  | [], r => by simp [sumL]
  | b :: p, r => by rw [List.cons_append, sumL, sumL, sum_append p r, Nat.add_assoc]
theorem spec_set_loop (l : List Int) (hl : inc 0 32 l) (hn : l.length ≤ 32) : ∀ (r p : List Int) (k : Nat), l = p ++ r → r.length + 60 < k → spec_BitsOf.l0 k l (bitsN 32 (sumL p)) (p.length : Int) = some (((sumL l : Nat) : Int), true)
  | [], p, k, h, hk => by
    obtain ⟨k, rfl⟩ : ∃ m, k = m + 1 := ⟨k - 1, by omega⟩
    rw [List.append_nil] at h
    subst h
    have := sum_bound l 0 32 (by omega) hl
    rw [spec_BitsOf.l0, if_neg (by omega), spec_word _ (by omega) k (by omega), Option.bind_some]
  | e :: r, p, k, h, hk => by
    obtain ⟨k, rfl⟩ : ∃ m, k = m + 1 := ⟨k - 1, by omega⟩
    have hlen : l.length = p.length + (r.length + 1) := by rw [h]; simp
    have he : rd l (p.length : Int) = e := by
      unfold rd
      rw [h]
      simp [List.getD_eq_getElem?_getD]
    have he0 : 0 ≤ e := by
      have hsp : ∀ (p : List Int) (lo : Nat), inc lo 32 (p ++ e :: r) → 0 ≤ e := by
        intro p
        induction p with
        | nil => intro lo h; have := h.1; omega
        | cons b p ih => intro lo h; exact ih _ h.2.2
      exact hsp p 0 (by rw [← h]; exact hl)
    obtain ⟨i, rfl⟩ := Int.eq_ofNat_of_zero_le he0
    rw [h] at hl
    obtain ⟨h1, h2, h3⟩ := inc_split p 0 32 i r hl
    have hs := sum_bound p 0 i (by omega) h3
    have hz : sumL p / 2 ^ i = 0 := Nat.div_eq_of_lt (by omega)
    have hrd : rd (bitsN 32 (sumL p)) (i : Int) = 0 := by
      have := rd_bits 32 (sumL p) i h2
      unfold rd
      rw [Int.toNat_natCast, this, hz]
      rfl
    have hset := set_bits 32 i (sumL p) h2 (by rw [hz])
    have ih := spec_set_loop l (by rw [h]; exact hl) hn r (p ++ [(i : Int)]) k (by rw [h, List.append_assoc, List.singleton_append]) (by simp at hk; omega)
    rw [List.length_append, List.length_singleton, sum_append] at ih
    have hs1 : sumL [(i : Int)] = 2 ^ i := by simp [sumL]
    rw [hs1] at ih
    rw [spec_BitsOf.l0, if_pos (by omega), if_pos (by omega), he, if_neg (by omega), if_neg (by omega), if_pos (by omega), if_pos (by rw [bitsN_length]; omega), hrd, if_neg (by decide), Int.toNat_natCast, hset, w64 (by omega) (by omega), show (p.length : Int) + 1 = ((p.length + 1 : Nat) : Int) by omega, ih]
theorem spec_setOf (l : List Int) (hl : inc 0 32 l) (hn : l.length ≤ 32) (k : Nat) (hk : 100 < k) : spec_BitsOf.f k l = some (((sumL l : Nat) : Int), true) := by
  unfold spec_BitsOf.f
  rw [if_pos (by decide)]
  have := spec_set_loop l hl hn l [] k rfl (by omega)
  rw [show bitsN 32 (sumL []) = List.replicate 32 0 by decide] at this
  exact this
end Go.Proofs.Ytmnjppfebaeoiaa.Base
