/- Release: the program's and the reference's come to one plain function. Conditions: none. -/
import Derived.Test.YtobboonnfocalaaGreatDoorOnesPureG1
import Derived.Test.YtobboonnfocalaaGreatDoorSizePureG1
import Derived.Test.YtobboonnfocalaaGreatDoorWordPureG1
import Derived.Laws.BitsAllLaws
import Derived.Test.YtobboonnfocalaaGreatDoorPG1x0
import Derived.Test.YtobboonnfocalaaGreatDoorPG1x1
set_option linter.unusedVariables false
set_option linter.unusedSimpArgs false
namespace Go.Proofs.YtobboonnfocalaaGreatDoor.Base
open Go.RowKit Go.Proofs.YtobboonnfocalaaGreatDoor.PG1 Go.Proofs.YtobboonnfocalaaGreatDoorW.PrintWords Go.Proofs.YtobboonnfocalaaGreatDoorW.PrintLast Go.Proofs.YtobboonnfocalaaGreatDoorW.PrintMore

theorem clear_bit : ∀ (n i a : Nat), i < n → a < 2 ^ n → a / 2 ^ i % 2 = 1 → a &&& (2 ^ n - 1 - 2 ^ i) = a - 2 ^ i
  | 0, i, a, hi, _, _ => by omega
  | n + 1, 0, a, hi, ha, hb => by
    have hN : 0 < 2 ^ n := Nat.two_pow_pos n
    rw [Nat.pow_succ] at ha ⊢
    simp only [Nat.pow_zero, Nat.div_one] at hb ⊢
    have e1 : (a &&& (2 ^ n * 2 - 1 - 1)) / 2 = a / 2 := by
      have := Nat.and_div_two_pow (a := a) (b := 2 ^ n * 2 - 1 - 1) (n := 1)
      rw [Nat.pow_one] at this
      rw [this, show (2 ^ n * 2 - 1 - 1) / 2 = 2 ^ n - 1 by omega, Nat.and_two_pow_sub_one_eq_mod, Nat.mod_eq_of_lt (by omega)]
    have e2 : ¬ (a &&& (2 ^ n * 2 - 1 - 1)) % 2 = 1 := by rw [Nat.and_mod_two_eq_one]; omega
    omega
  | n + 1, i + 1, a, hi, ha, hb => by
    have hN : 2 ^ i < 2 ^ n := Nat.pow_lt_pow_right (by omega) (by omega)
    have hP : 0 < 2 ^ i := Nat.two_pow_pos i
    have hb' : a / 2 / 2 ^ i % 2 = 1 := by rw [Nat.div_div_eq_div_mul, Nat.mul_comm 2, ← Nat.pow_succ]; exact hb
    rw [Nat.pow_succ] at ha
    rw [Nat.pow_succ, Nat.pow_succ]
    have ih := clear_bit n i (a / 2) (by omega) (by omega) hb'
    have e1 : (a &&& (2 ^ n * 2 - 1 - 2 ^ i * 2)) / 2 = a / 2 - 2 ^ i := by
      have := Nat.and_div_two_pow (a := a) (b := 2 ^ n * 2 - 1 - 2 ^ i * 2) (n := 1)
      rw [Nat.pow_one] at this
      rw [this, show (2 ^ n * 2 - 1 - 2 ^ i * 2) / 2 = 2 ^ n - 1 - 2 ^ i by omega, ih]
    have e2 : (a &&& (2 ^ n * 2 - 1 - 2 ^ i * 2)) % 2 = 1 ↔ a % 2 = 1 ∧ (2 ^ n * 2 - 1 - 2 ^ i * 2) % 2 = 1 := Nat.and_mod_two_eq_one
    have e3 : 2 ^ i ≤ a / 2 := by
      rcases Nat.lt_or_ge (a / 2) (2 ^ i) with h | h
      · rw [Nat.div_eq_of_lt h] at hb'; omega
      · exact h
    omega
theorem pow16 {n : Nat} (h : n < 16) : 1 ≤ 2 ^ n ∧ 2 ^ n < 65536 := ⟨Nat.two_pow_pos n, Nat.pow_lt_pow_right (a := 2) (by omega) h⟩
theorem shl1 {n : Nat} (h : n < 16) : shl .u32 1 (n : Int) = ((2 ^ n : Nat) : Int) := by
  have hp := pow16 h
  unfold shl
  rw [Int.toNat_natCast, Nat.min_eq_left (by show n ≤ 32; omega), IntKind.wrap_u32, Int.one_mul]
  have e : ((2 : Int) ^ n) = ((2 ^ n : Nat) : Int) := by simp
  rw [e]
  omega
theorem bit_at {m n : Nat} (hm : m < 65536) (h : n < 16) : Go.bits .and .u32 (shr .u32 (m : Int) (n : Int)) 1 = ((m / 2 ^ n % 2 : Nat) : Int) := by
  unfold shr
  rw [Int.toNat_natCast, Nat.min_eq_left (by show n ≤ 32; omega)]
  have e : ((m : Int) / 2 ^ n) = ((m / 2 ^ n : Nat) : Int) := by simp
  have hle := Nat.div_le_self m (2 ^ n)
  rw [e]
  generalize m / 2 ^ n = q at hle ⊢
  rw [show (1 : Int) = 2 ^ 1 - 1 by omega, bits_mask .u32 32 (by decide) wraps_u32 1 (by decide) _ (by omega) (by omega)]
  omega
theorem clear_at {m n : Nat} (hm : m < 65536) (h : n < 16) (hb : m / 2 ^ n % 2 = 1) : Go.bits .andNot .u32 (m : Int) (shl .u32 1 (n : Int)) = ((m - 2 ^ n : Nat) : Int) := by
  have hp := pow16 h
  rw [shl1 h, u32_andNot_nat m (2 ^ n) (by omega) (by omega), show (4294967295 : Nat) = 2 ^ 32 - 1 by omega, clear_bit 32 n m (by omega) (by omega) hb]

/-- The word after the release, the block's size, and whether there was a block. -/
def relOf (b : Int) (m : Nat) (off : Int) : Int × Int × Bool :=
  if (0 ≤ off ∧ off ≤ 15) ∧ off / sz b * sz b = off ∧ m / 2 ^ (off / sz b).toNat % 2 = 1 then
    (if m - 2 ^ (off / sz b).toNat = 0 then 0 else word 1 b ((m - 2 ^ (off / sz b).toNat : Nat) : Int) 0, sz b, true)
  else (0, 0, false)
def release (x off : Int) : Int × Int × Bool :=
  if (ctlRead x).2.2.2.2 = true ∧ (ctlRead x).1 = 1 then relOf (ctlRead x).2.1 (ctlRead x).2.2.1.toNat off else (0, 0, false)
theorem quot {b off : Int} (h : 0 ≤ off ∧ off ≤ 15) : ∃ n : Nat, off / sz b = (n : Int) ∧ n < 16 := by
  have hs := sz_pos b
  have h1 : 0 ≤ off / sz b := Int.ediv_nonneg h.1 (by omega)
  have h2 : off / sz b ≤ off := Int.ediv_le_self _ h.1
  exact ⟨(off / sz b).toNat, by omega, by omega⟩
theorem ctl_page {x : Int} (h : (ctlRead x).2.2.2.2 = true) (h1 : (ctlRead x).1 = 1) : x / 65536 % 16 = (ctlRead x).2.1 ∧ (ctlRead x).2.2.2.1 = 0 ∧ ctlOk 1 (ctlRead x).2.1 (ctlRead x).2.2.1 0 = true := by
  unfold ctlRead at *
  by_cases c : ctlOk (x / 1048576 % 16) (x / 65536 % 16) (x % 65536) (x / 16777216) = true
  · rw [if_pos c] at *
    dsimp only at *
    rw [h1] at c
    have c' := c
    unfold ctlOk at c'
    rw [if_neg (by omega), if_pos rfl, decide_eq_true_eq] at c'
    obtain ⟨_, _, _, _, e⟩ := c'
    rw [e] at c
    exact ⟨rfl, e, c⟩
  · rw [if_neg c] at h
    cases h
theorem page_less {b c d : Int} (h : ctlOk 1 b c 0 = true) (hd : d ≠ 0) (hdc : d ≤ c) : ctlOk 1 b d 0 = true := by
  unfold ctlOk at *
  rw [if_neg (by omega), if_pos rfl, decide_eq_true_eq] at *
  omega
def oneAt (n : Nat) : List Int := (List.replicate 32 (0 : Int)).set n 1
theorem oneAt_facts : ∀ n : Fin 16, val (oneAt n.val) = 2 ^ n.val ∧ (∀ x ∈ oneAt n.val, 0 ≤ x ∧ x ≤ 1) ∧ ∀ j : Fin 33, 0 ≤ val ((oneAt n.val).drop j.val) ∧ val ((oneAt n.val).drop j.val) < 4294967296 := by decide +kernel
theorem spec_oneAt {n : Nat} (h : n < 16) (k : Nat) (hk : 40 < k) : spec_l01Word.f k (oneAt n) = some ((2 ^ n : Nat) : Int) := by
  obtain ⟨h1, h2, h3⟩ := oneAt_facts ⟨n, h⟩
  dsimp only at h1 h2 h3
  have hl : (oneAt n).length = 32 := by simp [oneAt]
  have L := spec_word_loop (oneAt n) hl (fun j hj => h3 ⟨j, by omega⟩) h2 32 k (by omega) (by omega)
  unfold spec_l01Word.f
  rw [hl, w64 (by omega) (by omega)]
  rw [List.drop_of_length_le (by omega), h1] at L
  rw [show ((2 ^ n : Nat) : Int) = 2 ^ n by simp]
  exact L
theorem spec_bitsOf {n : Nat} (h : n < 16) (k : Nat) (hk : 50 < k) : spec_BitsOf.f k [(n : Int)] = some (((2 ^ n : Nat) : Int), true) := by
  obtain ⟨k, rfl⟩ : ∃ m, k = m + 2 := ⟨k - 2, by omega⟩
  unfold spec_BitsOf.f
  rw [if_pos (by omega)]
  simp only [spec_BitsOf.l0]
  have e1 : rd [(n : Int)] 0 = (n : Int) := rfl
  have e2 : rd (List.replicate 32 (0 : Int)) (n : Int) = 0 := by unfold rd; rw [List.getD_eq_getElem?_getD, List.getElem?_replicate, Int.toNat_natCast, if_pos (by omega)]; rfl
  rw [if_pos (by simp), if_pos (by omega), e1, if_neg (by omega), if_neg (by omega), if_pos (by omega), if_pos (by simp; omega), e2, if_neg (by omega), w64 (by omega) (by omega), if_neg (by simp)]
  show (spec_l01Word.f k (oneAt n)).bind _ = _
  rw [spec_oneAt h k (by omega)]
  rfl
theorem spec_blockAt (x off : Int) (h0 : 0 ≤ x) (h1 : x ≤ 4294967295) (k : Nat) (hk : 60 < k) : spec_BlockAt.f k x off = some (if (ctlRead x).2.2.2.2 = true ∧ (ctlRead x).1 = 1 ∧ (0 ≤ off ∧ off ≤ 15) ∧ (ctlRead x).2.2.1.toNat / 2 ^ (off / sz (ctlRead x).2.1).toNat % 2 = 1 then (off / sz (ctlRead x).2.1 * sz (ctlRead x).2.1, sz (ctlRead x).2.1, true) else (0, 0, false)) := by
  obtain ⟨k, rfl⟩ : ∃ m, k = m + 1 := ⟨k - 1, by omega⟩
  have hm := ctlRead_map x
  have hc := ctlRead_class x
  unfold spec_BlockAt.f
  rw [spec_ctlRead x h0 h1 _ (by omega), Option.bind_some]
  generalize ctlRead x = r at hm hc ⊢
  obtain ⟨a, b, m, d, ok⟩ := r
  dsimp only at hm hc ⊢
  obtain ⟨m, rfl⟩ := Int.eq_ofNat_of_zero_le hm.1
  rw [Int.toNat_natCast]
  by_cases c0 : ok = true
  · rw [if_pos c0]
    by_cases c1 : a = 1
    · rw [if_pos c1]
      by_cases c2 : 0 ≤ off ∧ off ≤ 15
      · obtain ⟨n, hn, hn16⟩ := quot (b := b) c2
        have hs := sz_pos b
        rw [if_neg (show ¬ off < 0 by omega), decide_eq_false (show ¬ off ≥ 16 by omega), hn, Int.toNat_natCast]
        simp only [spec_BlockAt.j0]
        have hq : wrap64 (Int.tdiv off (sz b)) = (n : Int) := by rw [Int.tdiv_eq_ediv_of_nonneg c2.1, hn, w64 (by omega) (by omega)]
        have hle : (n : Int) * sz b ≤ off := by rw [← hn]; exact Int.ediv_mul_le off (by omega)
        have hge : 0 ≤ (n : Int) * sz b := Int.mul_nonneg (by omega) (by omega)
        rw [if_neg (by simp), spec_size b hc k (by omega), Option.bind_some, spec_bits m (by omega) k (by omega), Option.bind_some, if_neg (by omega), hq, bitsN_length, if_pos (by omega), if_pos (by omega), w64 (by omega) (by omega)]
        have e : rd (bitsN 32 m) (n : Int) = ((m / 2 ^ n % 2 : Nat) : Int) := rd_bits 32 m n (by omega)
        rw [e]
        by_cases c4 : m / 2 ^ n % 2 = 1
        · rw [c4, if_neg (by omega), if_pos (show ok = true ∧ a = 1 ∧ (0 ≤ off ∧ off ≤ 15) ∧ (1 : Nat) = 1 from ⟨c0, c1, c2, rfl⟩)]
        · rw [show m / 2 ^ n % 2 = 0 by omega, if_pos (by omega), if_neg (fun h => absurd h.2.2.2 (by omega))]
      · have hN : ¬ (ok = true ∧ a = 1 ∧ (0 ≤ off ∧ off ≤ 15) ∧ m / 2 ^ (off / sz b).toNat % 2 = 1) := fun h => c2 h.2.2.1
        by_cases c3 : off < 0
        · rw [if_pos c3, if_neg hN]; simp [spec_BlockAt.j0]
        · rw [if_neg c3, decide_eq_true (show off ≥ 16 by omega), if_neg hN]; simp [spec_BlockAt.j0]
    · rw [if_neg c1, if_neg (fun h => c1 h.2.1)]
      simp [spec_BlockAt.j0]
  · rw [if_neg c0, if_neg (fun h => c0 h.1)]
    simp [spec_BlockAt.j0]
theorem spec_release (x off : Int) (h0 : 0 ≤ x) (h1 : x ≤ 4294967295) (k : Nat) (hk : 100 < k) : spec_Release.f k x off = some (release x off) := by
  obtain ⟨k, rfl⟩ : ∃ m, k = m + 1 := ⟨k - 1, by omega⟩
  have hm := ctlRead_map x
  have hc := ctlRead_class x
  have hpg := @ctl_page x
  unfold spec_Release.f release relOf
  rw [spec_blockAt x off h0 h1 _ (by omega), Option.bind_some]
  simp only [spec_Release.j0, spec_ctlRead x h0 h1 k (by omega), Option.bind_some]
  generalize ctlRead x = r at hm hc hpg ⊢
  obtain ⟨a, b, m, d, ok⟩ := r
  dsimp only at hm hc hpg ⊢
  obtain ⟨m, rfl⟩ := Int.eq_ofNat_of_zero_le hm.1
  rw [Int.toNat_natCast]
  by_cases c0 : ok = true ∧ a = 1 ∧ (0 ≤ off ∧ off ≤ 15) ∧ m / 2 ^ (off / sz b).toNat % 2 = 1
  · rw [if_pos c0]
    obtain ⟨p0, p1, c2, c4⟩ := c0
    obtain ⟨q1, q2, q3⟩ := hpg p0 p1
    rw [if_pos rfl, if_pos (show ok = true ∧ a = 1 from ⟨p0, p1⟩)]
    by_cases c3 : off / sz b * sz b = off
    · rw [if_pos (show (0 ≤ off ∧ off ≤ 15) ∧ off / sz b * sz b = off ∧ m / 2 ^ (off / sz b).toNat % 2 = 1 from ⟨c2, c3, c4⟩)]
      obtain ⟨n, hn, hn16⟩ := quot (b := b) c2
      have hs := sz_pos b
      rw [if_neg (by simpa using c3), if_neg (by dsimp only; omega)]
      have hq : wrap64 (Int.tdiv off (sz b)) = (n : Int) := by rw [Int.tdiv_eq_ediv_of_nonneg c2.1, hn, w64 (by omega) (by omega)]
      dsimp only
      rw [hn, Int.toNat_natCast] at c4
      rw [hq, spec_bitsOf hn16 k (by omega), Option.bind_some, hn, Int.toNat_natCast]
      have hp := pow16 hn16
      have hge : 2 ^ n ≤ m := by
        rcases Nat.lt_or_ge m (2 ^ n) with h | h
        · rw [Nat.div_eq_of_lt h] at c4; omega
        · exact h
      have hlt : m < 65536 := by omega
      dsimp only
      have e : ((m : Int) - ((2 ^ n : Nat) : Int)) % 4294967296 = ((m - 2 ^ n : Nat) : Int) := by
        generalize 2 ^ n = P at hp hge ⊢
        omega
      rw [e]
      have hle := Nat.sub_le m (2 ^ n)
      generalize m - 2 ^ n = q at hle ⊢
      by_cases c5 : q = 0
      · rw [if_pos (by omega), if_pos c5]
      · rw [if_neg (by omega), if_neg c5, p1, q2, spec_pack 1 b (q : Int) 0 (by omega) (by omega) k (by omega), if_pos (page_less q3 (by omega) (by omega))]
        rfl
    · have hN : ¬ ((0 ≤ off ∧ off ≤ 15) ∧ off / sz b * sz b = off ∧ m / 2 ^ (off / sz b).toNat % 2 = 1) := fun h => c3 h.2.1
      have hne : (off / sz b * sz b != off) = true := by simpa using c3
      dsimp only
      rw [hne, if_pos rfl, if_neg hN]
  · rw [if_neg c0, if_neg (by simp), if_pos trivial]
    by_cases p : ok = true ∧ a = 1
    · rw [if_pos p, if_neg (fun h => c0 ⟨p.1, p.2, h.1, h.2.2⟩)]
    · rw [if_neg p]
end Go.Proofs.YtobboonnfocalaaGreatDoor.Base
