/- The count of ones, by the table and by the list of places; and what room a word has. Conditions: none. -/
import Derived.Test.YtobboonnfocalaaGreatDoorCtlPureG1
import Derived.Test.YtobboonnfocalaaGreatDoorPG1x3
import Derived.Test.YtobboonnfocalaaGreatDoorPG1x4
import Derived.Test.YtobboonnfocalaaGreatDoorPG1x0
import Derived.Test.YtobboonnfocalaaGreatDoorPG1x1
set_option linter.unusedVariables false
set_option linter.unusedSimpArgs false
namespace Go.Proofs.YtobboonnfocalaaGreatDoor.Base
open Go.RowKit Go.Proofs.YtobboonnfocalaaGreatDoor.PG1 Go.Proofs.YtobboonnfocalaaGreatDoorW.PrintWords Go.Proofs.YtobboonnfocalaaGreatDoorW.PrintLast Go.Proofs.YtobboonnfocalaaGreatDoorW.PrintMore

/-- The ones among the lowest n bits. -/
def pop : Nat → Nat → Nat
  | 0, _ => 0
  | n + 1, x => x % 2 + pop n (x / 2)
theorem len_ons : ∀ (n i x : Nat), (ons i (bitsN n x)).length = pop n x
  | 0, _, _ => rfl
  | n + 1, i, x => by
    simp only [bitsN, ons, pop, List.length_append, len_ons n]
    rcases Nat.mod_two_eq_zero_or_one x with h | h <;> rw [h] <;> simp
theorem pop_add : ∀ (m n x : Nat), pop (m + n) x = pop m x + pop n (x / 2 ^ m)
  | 0, n, x => by simp [pop]
  | m + 1, n, x => by
    rw [show m + 1 + n = (m + n) + 1 by omega]
    simp only [pop]
    rw [pop_add m n (x / 2), Nat.div_div_eq_div_mul, Nat.pow_succ, Nat.mul_comm 2 (2 ^ m)]
    omega
theorem pop8_mod (x : Nat) : pop 8 (x % 256) = pop 8 x := by
  simp only [pop]
  omega
theorem pop32 (x : Nat) : pop 32 x = pop 8 x + (pop 8 (x / 256) + (pop 8 (x / 65536) + pop 8 (x / 16777216))) := by
  rw [show (32 : Nat) = 8 + (8 + (8 + 8)) by omega, pop_add, pop_add, pop_add, Nat.div_div_eq_div_mul, Nat.div_div_eq_div_mul]
theorem pop8_le (x : Nat) : pop 8 x ≤ 8 := by
  simp only [pop]
  omega
def tab : ByteArray := ⟨#[0, 1, 1, 2, 1, 2, 2, 3, 1, 2, 2, 3, 2, 3, 3, 4, 1, 2, 2, 3, 2, 3, 3, 4, 2, 3, 3, 4, 3, 4, 4, 5, 1, 2, 2, 3, 2, 3, 3, 4, 2, 3, 3, 4, 3, 4, 4, 5, 2, 3, 3, 4, 3, 4, 4, 5, 3, 4, 4, 5, 4, 5, 5, 6, 1, 2, 2, 3, 2, 3, 3, 4, 2, 3, 3, 4, 3, 4, 4, 5, 2, 3, 3, 4, 3, 4, 4, 5, 3, 4, 4, 5, 4, 5, 5, 6, 2, 3, 3, 4, 3, 4, 4, 5, 3, 4, 4, 5, 4, 5, 5, 6, 3, 4, 4, 5, 4, 5, 5, 6, 4, 5, 5, 6, 5, 6, 6, 7, 1, 2, 2, 3, 2, 3, 3, 4, 2, 3, 3, 4, 3, 4, 4, 5, 2, 3, 3, 4, 3, 4, 4, 5, 3, 4, 4, 5, 4, 5, 5, 6, 2, 3, 3, 4, 3, 4, 4, 5, 3, 4, 4, 5, 4, 5, 5, 6, 3, 4, 4, 5, 4, 5, 5, 6, 4, 5, 5, 6, 5, 6, 6, 7, 2, 3, 3, 4, 3, 4, 4, 5, 3, 4, 4, 5, 4, 5, 5, 6, 3, 4, 4, 5, 4, 5, 5, 6, 4, 5, 5, 6, 5, 6, 6, 7, 3, 4, 4, 5, 4, 5, 5, 6, 4, 5, 5, 6, 5, 6, 6, 7, 4, 5, 5, 6, 5, 6, 6, 7, 5, 6, 6, 7, 6, 7, 7, 8]⟩
theorem tab_eq : ∀ n : Fin 256, bt tab ((n.val : Nat) : Int) = ((pop 8 n.val : Nat) : Int) := by decide +kernel
theorem tab_at (n : Nat) (h : n < 256) : bt tab (n : Int) = ((pop 8 n : Nat) : Int) := tab_eq ⟨n, h⟩
theorem tab_sum (x : Nat) (hx : x < 4294967296) : (((bt tab ((x / 16777216 : Nat) : Int) + bt tab ((x / 65536 % 256 : Nat) : Int)) % 256 + bt tab ((x / 256 % 256 : Nat) : Int)) % 256 + bt tab ((x % 256 : Nat) : Int)) % 256 = ((pop 32 x : Nat) : Int) := by
  have t1 := tab_at (x / 16777216) (by omega)
  have t2 := tab_at (x / 65536 % 256) (by omega)
  have t3 := tab_at (x / 256 % 256) (by omega)
  have t4 := tab_at (x % 256) (by omega)
  rw [pop8_mod] at t2 t3 t4
  have l1 := pop8_le (x / 16777216)
  have l2 := pop8_le (x / 65536)
  have l3 := pop8_le (x / 256)
  have l4 := pop8_le x
  have hp := pop32 x
  rw [t1, t2, t3, t4]
  generalize pop 8 (x / 16777216) = p1 at *
  generalize pop 8 (x / 65536) = p2 at *
  generalize pop 8 (x / 256) = p3 at *
  generalize pop 8 x = p4 at *
  generalize pop 32 x = p at *
  omega
def onesOf (T : ByteArray) (a0 : Int) : Option Int := if 0 ≤ (a0 / 16777216) then (if (a0 / 16777216) < 256 then (if 0 ≤ (Go.bits .and .u32 (a0 / 65536) 255) then (if (Go.bits .and .u32 (a0 / 65536) 255) < 256 then (if 0 ≤ (Go.bits .and .u32 (a0 / 256) 255) then (if (Go.bits .and .u32 (a0 / 256) 255) < 256 then (if 0 ≤ (Go.bits .and .u32 a0 255) then (if (Go.bits .and .u32 a0 255) < 256 then (some (((((((bt T (a0 / 16777216)) + (bt T (Go.bits .and .u32 (a0 / 65536) 255))) % 256) + (bt T (Go.bits .and .u32 (a0 / 256) 255))) % 256) + (bt T (Go.bits .and .u32 a0 255))) % 256)) else (none)) else (none)) else (none)) else (none)) else (none)) else (none)) else (none)) else (none)
theorem onesOf_tab (a0 : Int) : bits_OnesCount32.f a0 = onesOf tab a0 := by
  unfold bits_OnesCount32.f onesOf tab
  with_reducible rfl
theorem onesOf_eq (T : ByteArray) (x : Nat) (hx : x < 4294967296) : onesOf T (x : Int) = some ((((bt T ((x / 16777216 : Nat) : Int) + bt T ((x / 65536 % 256 : Nat) : Int)) % 256 + bt T ((x / 256 % 256 : Nat) : Int)) % 256 + bt T ((x % 256 : Nat) : Int)) % 256) := by
  unfold onesOf
  rw [and255 (x := (x : Int) / 65536) (by omega) (by omega), and255 (x := (x : Int) / 256) (by omega) (by omega), and255 (x := (x : Int)) (by omega) (by omega)]
  rw [if_pos (by omega), if_pos (by omega), if_pos (by omega), if_pos (by omega), if_pos (by omega), if_pos (by omega), if_pos (by omega), if_pos (by omega)]
  have e1 : (x : Int) / 16777216 = ((x / 16777216 : Nat) : Int) := by omega
  have e2 : (x : Int) / 65536 % 256 = ((x / 65536 % 256 : Nat) : Int) := by omega
  have e3 : (x : Int) / 256 % 256 = ((x / 256 % 256 : Nat) : Int) := by omega
  have e4 : (x : Int) % 256 = ((x % 256 : Nat) : Int) := by omega
  rw [e1, e2, e3, e4]
theorem impl_ones32 (x : Nat) (hx : x < 4294967296) : bits_OnesCount32.f (x : Int) = some ((pop 32 x : Nat) : Int) := by
  rw [onesOf_tab, onesOf_eq tab x hx, tab_sum x hx]
theorem pop32_le (x : Nat) : pop 32 x ≤ 32 := by
  rw [pop32]
  have l1 := pop8_le (x / 16777216)
  have l2 := pop8_le (x / 65536)
  have l3 := pop8_le (x / 256)
  have l4 := pop8_le x
  omega
theorem impl_ones (x : Nat) (hx : x < 4294967296) : impl_Ones.f (x : Int) = some ((pop 32 x : Nat) : Int) := by
  unfold impl_Ones.f
  rw [impl_ones32 x hx]
  rfl
theorem spec_ones (x : Nat) (hx : x < 4294967296) (k : Nat) (hk : 40 < k) : spec_Ones.f k (x : Int) = some ((pop 32 x : Nat) : Int) := by
  unfold spec_Ones.f
  rw [spec_bitList x hx k hk, Option.bind_some]
  unfold bitList
  rw [len_ons]
/-- The parts of a word. -/
theorem ctlRead_map (x : Int) : 0 ≤ (ctlRead x).2.2.1 ∧ (ctlRead x).2.2.1 < 65536 := by
  unfold ctlRead
  split
  · show 0 ≤ x % 65536 ∧ x % 65536 < 65536
    omega
  · simp
theorem ctlRead_class (x : Int) : 0 ≤ (ctlRead x).2.1 ∧ (ctlRead x).2.1 ≤ 4 := by
  unfold ctlRead
  split
  · rename_i h
    show 0 ≤ x / 65536 % 16 ∧ x / 65536 % 16 ≤ 4
    generalize x / 65536 % 16 = b at h ⊢
    unfold ctlOk at h
    (repeat' split at h) <;> simp only [decide_eq_true_eq, Bool.false_eq_true] at h <;> omega
  · simp
def room (x c : Int) : Int :=
  if (ctlRead x).2.2.2.2 = true then (if (ctlRead x).1 = 0 then perPage c else if (ctlRead x).1 = 1 ∧ (ctlRead x).2.1 = c then perPage c - (pop 32 (ctlRead x).2.2.1.toNat : Nat) else 0) else 0
theorem perPage_range (c : Int) : 0 ≤ perPage c ∧ perPage c ≤ 16 := by
  unfold perPage
  (repeat' split) <;> omega
theorem perPage_none (c : Int) (h : ¬ (0 ≤ c ∧ c ≤ 4)) : perPage c = 0 := by
  unfold perPage
  (repeat' split) <;> omega
theorem impl_room (x c : Int) (h0 : 0 ≤ x) (h1 : x ≤ 4294967295) (k : Nat) (hk : 1 < k) : impl_Room.f k x c = some (room x c) := by
  obtain ⟨k, rfl⟩ : ∃ m, k = m + 1 := ⟨k - 1, by omega⟩
  unfold impl_Room.f room impl_roomOf.f
  rw [impl_ctlRead x h0 h1 _ hk, Option.bind_some]
  have hm := ctlRead_map x
  have hp := perPage_range c
  generalize ctlRead x = r at hm ⊢
  obtain ⟨a, b, m, d, ok⟩ := r
  dsimp only at hm ⊢
  have hm' := hm
  obtain ⟨n, rfl⟩ := Int.eq_ofNat_of_zero_le hm.1
  have hl := pop32_le n
  by_cases c0 : ok = true
  · rw [if_pos c0, if_pos c0]
    by_cases c1 : a = 0
    · rw [if_pos c1, if_pos c1, impl_perPage]; rfl
    rw [if_neg c1, if_neg c1]
    by_cases c2 : a = 1
    · rw [if_pos c2]
      by_cases c3 : b = c
      · rw [if_pos (show a = 1 ∧ b = c from ⟨c2, c3⟩)]
        simp only [impl_roomOf.j0]
        rw [if_pos (by simpa using c3), impl_perPage, impl_ones n (by omega)]
        simp only [Option.bind_some, Int.toNat_natCast]
        rw [w64 (by omega) (by omega)]
      · rw [if_neg (show ¬ (a = 1 ∧ b = c) from fun h => c3 h.2)]
        simp only [impl_roomOf.j0]
        rw [if_neg (by simpa using c3)]
        rfl
    · rw [if_neg c2, if_neg (show ¬ (a = 1 ∧ b = c) from fun h => c2 h.1)]
      simp only [impl_roomOf.j0]
      rw [if_neg (by simp)]
      rfl
  · rw [if_neg c0, if_neg c0]
theorem spec_room (x c : Int) (h0 : 0 ≤ x) (h1 : x ≤ 4294967295) (k : Nat) (hk : 60 < k) : spec_Room.f k x c = some (room x c) := by
  obtain ⟨k, rfl⟩ : ∃ m, k = m + 2 := ⟨k - 2, by omega⟩
  unfold spec_Room.f room
  rw [spec_ctlRead x h0 h1 _ (by omega), Option.bind_some, spec_class]
  have hm := ctlRead_map x
  have hc := ctlRead_class x
  have hp := perPage_range c
  have hpn := perPage_none c
  generalize ctlRead x = r at hm hc ⊢
  obtain ⟨a, b, m, d, ok⟩ := r
  dsimp only at hm hc ⊢
  obtain ⟨n, rfl⟩ := Int.eq_ofNat_of_zero_le hm.1
  have hl := pop32_le n
  simp only [Option.bind_some, spec_Room.j0]
  by_cases c0 : ok = true
  · rw [if_pos c0, if_pos c0]
    by_cases cc : 0 ≤ c ∧ c ≤ 4
    · rw [if_neg (by simpa using cc)]
      by_cases c1 : a = 0
      · rw [if_pos c1, if_pos c1, spec_perPage c _ (by omega)]; rfl
      rw [if_neg c1, if_neg c1]
      by_cases c2 : a = 1
      · rw [if_pos c2]
        by_cases c3 : b = c
        · rw [if_pos (show a = 1 ∧ b = c from ⟨c2, c3⟩)]
          simp only [spec_Room.j1]
          rw [if_pos (by simpa using c3), spec_perPage c _ (by omega), spec_ones n (by omega) _ (by omega)]
          simp only [Option.bind_some, Int.toNat_natCast]
          rw [w64 (by omega) (by omega)]
        · rw [if_neg (show ¬ (a = 1 ∧ b = c) from fun h => c3 h.2)]
          simp only [spec_Room.j1]
          rw [if_neg (by simpa using c3)]
      · rw [if_neg c2, if_neg (show ¬ (a = 1 ∧ b = c) from fun h => c2 h.1)]
        simp only [spec_Room.j1]
        rw [if_neg (by simp)]
    · rw [if_pos (by rw [decide_eq_false cc]; rfl), hpn cc]
      rw [if_neg (show ¬ (a = 1 ∧ b = c) by omega)]
      simp
  · rw [if_neg c0, if_neg c0, if_pos trivial]

theorem or_comm32 (a b : Int) : Go.bits .or .u32 a b = Go.bits .or .u32 b a := by simp only [Go.bits, BitVec.or_comm]
/-- The word of its parts. -/
def word (a b c d : Int) : Int := c + 65536 * b + 1048576 * a + 16777216 * d
theorem impl_pack (a b c d : Int) (ha : 0 ≤ a ∧ a < 16) (hb : 0 ≤ b ∧ b < 16) (hc : 0 ≤ c ∧ c < 65536) (hd : 0 ≤ d ∧ d < 256) : impl_packed.f a b c d = some (word a b c d) := by
  unfold impl_packed.f word
  rw [show b % 4294967296 * 65536 % 4294967296 = 65536 * b by omega, show a % 4294967296 * 1048576 % 4294967296 = 1048576 * a by omega, show d % 4294967296 * 16777216 % 4294967296 = 16777216 * d by omega]
  rw [or_comm32 c, bits_join .u32 32 (by decide) wraps_u32 16 (65536 * b) c (by omega) (by omega) (by omega) (by omega) (by omega) (by omega)]
  rw [or_comm32 _ (1048576 * a), bits_join .u32 32 (by decide) wraps_u32 20 (1048576 * a) (65536 * b + c) (by omega) (by omega) (by omega) (by omega) (by omega) (by omega)]
  rw [or_comm32 _ (16777216 * d), bits_join .u32 32 (by decide) wraps_u32 24 (16777216 * d) (1048576 * a + (65536 * b + c)) (by omega) (by omega) (by omega) (by omega) (by omega) (by omega)]
  congr 1
  omega
theorem ctlOk_ranges {a b c d : Int} (h : ctlOk a b c d = true) : (0 ≤ a ∧ a < 4) ∧ (0 ≤ b ∧ b < 5) ∧ (c = 0 ∨ 0 ≤ c → 0 ≤ c) ∧ c < 65536 ∧ (0 ≤ d ∧ d ≤ 16) := by
  unfold ctlOk pageMax at h
  by_cases h1 : a = 0 ∨ a = 3
  · rw [if_pos h1, decide_eq_true_eq] at h; omega
  by_cases h2 : a = 1
  · rw [if_neg h1, if_pos h2, decide_eq_true_eq] at h
    (repeat' split at h) <;> omega
  by_cases h3 : a = 2
  · rw [if_neg h1, if_neg h2, if_pos h3, decide_eq_true_eq] at h; omega
  rw [if_neg h1, if_neg h2, if_neg h3] at h
  cases h
theorem spec_pack (a b c d : Int) (hc0 : 0 ≤ c) (hc : c < 4294967296) (k : Nat) (hk : 60 < k) : spec_CtlPack.f k a b c d = some (if ctlOk a b c d = true then (word a b c d, true) else (0, false)) := by
  unfold spec_CtlPack.f word
  rw [spec_ctlOk a b c d hc0 hc k (by omega), Option.bind_some]
  by_cases h : ctlOk a b c d = true
  · obtain ⟨h1, h2, h3, h4, h5⟩ := ctlOk_ranges h
    rw [if_pos h, if_pos h, w64 (n := c) (by omega) (by omega), w64 (n := 65536 * b) (by omega) (by omega), w64 (n := 1048576 * a) (by omega) (by omega), w64 (n := 16777216 * d) (by omega) (by omega), w64 (n := c + 65536 * b) (by omega) (by omega), w64 (n := c + 65536 * b + 1048576 * a) (by omega) (by omega), w64 (by omega) (by omega)]
    congr 2
    omega
  · rw [if_neg h, if_neg h]
theorem ctlRead_word (a b c d : Int) (hc0 : 0 ≤ c) (h : ctlOk a b c d = true) : ctlRead (word a b c d) = (a, b, c, d, true) := by
  obtain ⟨h1, h2, h3, h4, h5⟩ := ctlOk_ranges h
  unfold ctlRead word
  rw [show (c + 65536 * b + 1048576 * a + 16777216 * d) / 1048576 % 16 = a by omega, show (c + 65536 * b + 1048576 * a + 16777216 * d) / 65536 % 16 = b by omega, show (c + 65536 * b + 1048576 * a + 16777216 * d) % 65536 = c by omega, show (c + 65536 * b + 1048576 * a + 16777216 * d) / 16777216 = d by omega, if_pos h]
theorem word_range (a b c d : Int) (hc0 : 0 ≤ c) (h : ctlOk a b c d = true) : 0 ≤ word a b c d ∧ word a b c d ≤ 4294967295 := by
  obtain ⟨h1, h2, h3, h4, h5⟩ := ctlOk_ranges h
  unfold word
  omega
end Go.Proofs.YtobboonnfocalaaGreatDoor.Base
