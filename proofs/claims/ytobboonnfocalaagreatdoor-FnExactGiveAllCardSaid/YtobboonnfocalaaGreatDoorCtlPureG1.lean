/- Control words: the program's and the reference's readings of a word come to one plain reading. Conditions: none. -/
import Derived.Test.YtobboonnfocalaaGreatDoorBaseG1
import Derived.Laws.BitsLemmas
import Derived.Test.YtobboonnfocalaaGreatDoorPG1x3
import Derived.Test.YtobboonnfocalaaGreatDoorPG1x0
set_option linter.unusedVariables false
set_option linter.unusedSimpArgs false
namespace Go.Proofs.YtobboonnfocalaaGreatDoor.Base
open Go.RowKit Go.Proofs.YtobboonnfocalaaGreatDoor.PG1 Go.Proofs.YtobboonnfocalaaGreatDoorW.PrintWords Go.Proofs.YtobboonnfocalaaGreatDoorW.PrintLast Go.Proofs.YtobboonnfocalaaGreatDoorW.PrintMore

theorem wraps_u32 (n : Int) (h0 : 0 ≤ n) (h1 : n < 2 ^ 32) : IntKind.u32.wrap n = n := by rw [IntKind.wrap_u32]; omega
theorem and15 {x : Int} (h0 : 0 ≤ x) (h1 : x ≤ 4294967295) : Go.bits .and .u32 x 15 = x % 16 := bits_mask .u32 32 (by decide) wraps_u32 4 (by decide) x h0 (by omega)
theorem and255 {x : Int} (h0 : 0 ≤ x) (h1 : x ≤ 4294967295) : Go.bits .and .u32 x 255 = x % 256 := bits_mask .u32 32 (by decide) wraps_u32 8 (by decide) x h0 (by omega)
theorem and65535 {x : Int} (h0 : 0 ≤ x) (h1 : x ≤ 4294967295) : Go.bits .and .u32 x 65535 = x % 65536 := bits_mask .u32 32 (by decide) wraps_u32 16 (by decide) x h0 (by omega)

/-- The lowest n bits of a number, lowest first. -/
def bitsN : Nat → Nat → List Int
  | 0, _ => []
  | n + 1, x => ((x % 2 : Nat) : Int) :: bitsN n (x / 2)
theorem bitsN_length : ∀ n x, (bitsN n x).length = n
  | 0, _ => rfl
  | n + 1, x => by simp [bitsN, bitsN_length n]
/-- The places of the ones. -/
def ons : Nat → List Int → List Int
  | _, [] => []
  | i, b :: r => (if b = 1 then [(i : Int)] else []) ++ ons (i + 1) r
theorem ons_length : ∀ (l : List Int) (i : Nat), (ons i l).length ≤ l.length
  | [], _ => by simp [ons]
  | b :: r, i => by
    have := ons_length r (i + 1)
    unfold ons
    rw [List.length_append, List.length_cons]
    split <;> simp <;> omega
theorem spec_bits_loop : ∀ (d i : Nat) (x : Nat) (acc : List Int) (k : Nat), i + d = 32 → d < k → x < 4294967296 → acc.length ≤ i → spec_l01Bits.l0 k (x : Int) acc (i : Int) = some (acc ++ bitsN d x)
  | 0, i, x, acc, k, hd, hk, hx, ha => by
    obtain ⟨k, rfl⟩ : ∃ m, k = m + 1 := ⟨k - 1, by omega⟩
    simp only [spec_l01Bits.l0]
    rw [if_neg (by omega)]
    simp [bitsN]
  | d + 1, i, x, acc, k, hd, hk, hx, ha => by
    obtain ⟨k, rfl⟩ : ∃ m, k = m + 1 := ⟨k - 1, by omega⟩
    simp only [spec_l01Bits.l0]
    have e1 : Int.tdiv (x : Int) 2 % 4294967296 = ((x / 2 : Nat) : Int) := by rw [Int.tdiv_eq_ediv_of_nonneg (by omega)]; omega
    have e2 : wrap64 (Int.tmod (x : Int) 2) = ((x % 2 : Nat) : Int) := by rw [Int.tmod_eq_emod_of_nonneg (by omega), w64 (by omega) (by omega)]; omega
    rw [if_pos (by omega), if_pos (by omega), e1, e2, w64 (by omega) (by omega), show (i : Int) + 1 = ((i + 1 : Nat) : Int) by omega,
      spec_bits_loop d (i + 1) (x / 2) _ k (by omega) (by omega) (by omega) (by simp; omega), List.append_assoc]
    rfl
theorem spec_ons_loop (l : List Int) (hl : l.length = 32) : ∀ (d i : Nat) (acc : List Int) (k : Nat), i + d = 32 → d < k → acc.length ≤ i → spec_BitList.l0 k acc l (i : Int) = some (acc ++ ons i (l.drop i))
  | 0, i, acc, k, hd, hk, ha => by
    obtain ⟨k, rfl⟩ : ∃ m, k = m + 1 := ⟨k - 1, by omega⟩
    simp only [spec_BitList.l0]
    rw [if_neg (by omega), List.drop_of_length_le (by omega)]
    simp [ons]
  | d + 1, i, acc, k, hd, hk, ha => by
    obtain ⟨k, rfl⟩ : ∃ m, k = m + 1 := ⟨k - 1, by omega⟩
    have hi : i < l.length := by omega
    rw [List.drop_eq_getElem_cons hi]
    simp only [spec_BitList.l0]
    have e : rd l (i : Int) = l[i] := by unfold rd; simp [List.getD_eq_getElem?_getD, hi]
    rw [if_pos (by omega), if_pos (by omega), if_pos (by omega), e, w64 (by omega) (by omega), show (i : Int) + 1 = ((i + 1 : Nat) : Int) by omega]
    show _ = some (acc ++ ((if l[i] = 1 then [(i : Int)] else []) ++ ons (i + 1) (l.drop (i + 1))))
    by_cases c : l[i] = 1
    · rw [if_pos c, if_pos (by omega), if_pos c, spec_ons_loop l hl d (i + 1) _ k (by omega) (by omega) (by simp; omega), List.append_assoc]
    · rw [if_neg c, if_neg c, spec_ons_loop l hl d (i + 1) _ k (by omega) (by omega) (by omega), List.nil_append]
def bitList (x : Nat) : List Int := ons 0 (bitsN 32 x)
theorem spec_bitList (x : Nat) (hx : x < 4294967296) (k : Nat) (hk : 40 < k) : spec_BitList.f k (x : Int) = some (bitList x) := by
  unfold spec_BitList.f spec_l01Bits.f bitList
  have h1 := spec_bits_loop 32 0 x [] k (by omega) (by omega) hx (by simp)
  have h2 := spec_ons_loop (bitsN 32 x) (bitsN_length 32 x) 32 0 [] k (by omega) (by omega) (by simp)
  simp only [Int.natCast_zero, List.nil_append] at h1
  rw [h1, Option.bind_some]
  simpa using h2
theorem ons_zero : ∀ (n i : Nat), ons i (bitsN n 0) = []
  | 0, _ => rfl
  | n + 1, i => by simp [bitsN, ons, ons_zero n]
theorem ons_last : ∀ (n i x : Nat), x ≠ 0 → x < 2 ^ n → ∃ l, ons i (bitsN n x) = l ++ [((i + x.log2 : Nat) : Int)]
  | 0, i, x, h0, h1 => by simp at h1; omega
  | n + 1, i, x, h0, h1 => by
    by_cases c : x / 2 = 0
    · have e : x = 1 := by omega
      subst e
      refine ⟨[], ?_⟩
      simp [bitsN, ons, ons_zero, show Nat.log2 1 = 0 by decide]
    · obtain ⟨l, hl⟩ := ons_last n (i + 1) (x / 2) c (by rw [Nat.pow_succ] at h1; omega)
      refine ⟨(if ((x % 2 : Nat) : Int) = 1 then [(i : Int)] else []) ++ l, ?_⟩
      have e : x.log2 = (x / 2).log2 + 1 := by rw [Nat.log2_def x, if_pos (by omega)]
      show (if ((x % 2 : Nat) : Int) = 1 then [(i : Int)] else []) ++ ons (i + 1) (bitsN n (x / 2)) = _
      rw [hl, e, List.append_assoc, show i + 1 + (x / 2).log2 = i + ((x / 2).log2 + 1) by omega]
theorem spec_highest (x : Nat) (h0 : x ≠ 0) (hx : x < 4294967296) (k : Nat) (hk : 40 < k) : spec_Highest.f k (x : Int) = some (x.log2 : Int) := by
  unfold spec_Highest.f
  rw [spec_bitList x hx k hk, Option.bind_some]
  have hlen : (bitList x).length ≤ 32 := by have := ons_length (bitsN 32 x) 0; rw [bitsN_length] at this; exact this
  obtain ⟨l, hl⟩ := ons_last 32 0 x h0 hx
  have e : bitList x = l ++ [(x.log2 : Int)] := by unfold bitList; rw [hl]; simp
  rw [e] at hlen ⊢
  rw [List.length_append, List.length_singleton] at hlen ⊢
  rw [if_neg (by omega), w64 (by omega) (by omega), if_pos (by omega), if_pos (by omega), show ((l.length + 1 : Nat) : Int) - 1 = (l.length : Int) by omega]
  unfold rd
  simp [List.getD_eq_getElem?_getD]

def perPage (b : Int) : Int := if b = 0 then 16 else if b = 1 then 8 else if b = 2 then 4 else if b = 3 then 2 else if b = 4 then 1 else 0
def pageMax (b : Int) : Int := if b = 0 then 65536 else if b = 1 then 256 else if b = 2 then 16 else if b = 3 then 4 else 2
def ctlOk (a b c d : Int) : Bool :=
  if a = 0 ∨ a = 3 then decide (b = 0 ∧ c = 0 ∧ d = 0) else if a = 1 then decide (0 ≤ b ∧ b ≤ 4 ∧ c ≠ 0 ∧ c < pageMax b ∧ d = 0) else if a = 2 then decide (2 ≤ d ∧ d ≤ 16 ∧ b = 0 ∧ c = 0) else false
theorem within_ctl (n a b : Int) : impl_within.f n a b = some (decide (a ≤ n ∧ n ≤ b)) := by
  unfold impl_within.f
  by_cases h : n ≥ a
  · rw [if_pos h]; congr 1; rw [decide_eq_decide]; omega
  · rw [if_neg h]; congr 1; symm; rw [decide_eq_false_iff_not]; omega
theorem impl_class (b : Int) : impl_isClass.f b = some (decide (0 ≤ b ∧ b ≤ 4)) := by
  unfold impl_isClass.f
  rw [within_ctl]
  rfl
theorem class_cases {b : Int} (h : 0 ≤ b ∧ b ≤ 4) : b = 0 ∨ b = 1 ∨ b = 2 ∨ b = 3 ∨ b = 4 := by omega
theorem impl_perPage (b : Int) : impl_PerPage.f b = some (perPage b) := by
  unfold impl_PerPage.f
  rw [impl_class, Option.bind_some]
  by_cases h : 0 ≤ b ∧ b ≤ 4
  · rw [if_pos (by simpa using h)]
    rcases class_cases h with rfl | rfl | rfl | rfl | rfl <;> decide
  · rw [if_neg (by simpa using h)]
    unfold perPage
    congr 1
    (repeat' split) <;> omega
theorem spec_class (b : Int) : spec_l04Class.f b = some (decide (0 ≤ b ∧ b ≤ 4)) := by
  unfold spec_l04Class.f
  by_cases h : b ≥ 0
  · rw [if_pos h]; congr 1; rw [decide_eq_decide]; omega
  · rw [if_neg h]; congr 1; symm; rw [decide_eq_false_iff_not]; omega
theorem spec_perPage (b : Int) (k : Nat) (hk : 10 < k) : spec_PerPage.f k b = some (perPage b) := by
  obtain ⟨k, rfl⟩ : ∃ m, k = m + 10 := ⟨k - 10, by omega⟩
  unfold spec_PerPage.f
  rw [spec_class, Option.bind_some]
  by_cases h : 0 ≤ b ∧ b ≤ 4
  · rw [if_pos (by simpa using h)]
    unfold spec_l04Pow.f
    rcases class_cases h with rfl | rfl | rfl | rfl | rfl <;> simp [spec_l04Pow.l0, wrap64, perPage]
  · rw [if_neg (by simpa using h)]
    unfold perPage
    congr 1
    (repeat' split) <;> omega
theorem impl_ctlOk (a b c d : Int) (k : Nat) (hk : 1 < k) : impl_isCtl.f k a b c d = some (ctlOk a b c d) := by
  obtain ⟨k, rfl⟩ : ∃ m, k = m + 1 := ⟨k - 1, by omega⟩
  have key : ∀ q, q = decide (a = 0 ∨ a = 3) → impl_isCtl.j0 (k + 1) a q a b c d = some (ctlOk a b c d) := by
    intro q hq
    subst hq
    unfold ctlOk
    simp only [impl_isCtl.j0, impl_class, impl_perPage, within_ctl, Option.bind_some]
    by_cases h1 : a = 0 ∨ a = 3
    · rw [if_pos (by simpa using h1), if_pos h1, Option.some.injEq, Bool.eq_iff_iff]
      simp
    rw [if_neg (by simpa using h1), if_neg h1]
    by_cases h2 : a = 1
    · rw [if_pos h2, if_pos h2]
      by_cases h3 : 0 ≤ b ∧ b ≤ 4
      · rw [if_pos (by simpa using h3)]
        have h4 : 0 ≤ perPage b ∧ shl .u32 1 (perPage b) = pageMax b := by
          rcases class_cases h3 with rfl | rfl | rfl | rfl | rfl <;> decide
        rw [if_pos h4.1, h4.2]
        (repeat' split) <;> (rw [Option.some.injEq, Bool.eq_iff_iff]; simp only [beq_iff_eq, decide_eq_true_eq, Bool.false_eq_true, false_iff, true_iff] at *; omega)
      · rw [if_neg (by simpa using h3), Option.some.injEq, Bool.eq_iff_iff]
        simp only [decide_eq_true_eq, Bool.false_eq_true, false_iff]
        omega
    rw [if_neg h2, if_neg h2]
    (repeat' split) <;> first | rfl | (rw [Option.some.injEq, Bool.eq_iff_iff]; simp only [beq_iff_eq, decide_eq_true_eq, Bool.false_eq_true, false_iff, true_iff] at *; omega)
  unfold impl_isCtl.f
  split
  · exact key _ (by rw [Bool.eq_iff_iff]; simp <;> omega)
  · exact key _ (by rw [Bool.eq_iff_iff]; simp <;> omega)
theorem spec_ctlOk (a b c d : Int) (hc0 : 0 ≤ c) (hc : c < 4294967296) (k : Nat) (hk : 50 < k) : spec_CtlOk.f k a b c d = some (ctlOk a b c d) := by
  obtain ⟨k, rfl⟩ : ∃ m, k = m + 1 := ⟨k - 1, by omega⟩
  have key : ∀ q, q = decide (a = 0 ∨ a = 3) → spec_CtlOk.j0 (k + 1) a q a b c d = some (ctlOk a b c d) := by
    intro q hq
    subst hq
    unfold ctlOk
    simp only [spec_CtlOk.j0, spec_class, spec_perPage b k (by omega), Option.bind_some]
    by_cases h1 : a = 0 ∨ a = 3
    · rw [if_pos (by simpa using h1), if_pos h1]
      (repeat' split) <;> (rw [Option.some.injEq, Bool.eq_iff_iff]; simp only [beq_iff_eq, decide_eq_true_eq, Bool.false_eq_true, false_iff, true_iff] at *; omega)
    rw [if_neg (by simpa using h1), if_neg h1]
    by_cases h2 : a = 1
    · rw [if_pos h2, if_pos h2]
      by_cases h3 : 0 ≤ b ∧ b ≤ 4
      · rw [if_pos (by simpa using h3)]
        by_cases h5 : c = 0
        · rw [if_pos h5, Option.some.injEq, Bool.eq_iff_iff]
          simp [h5]
        · rw [if_neg h5]
          obtain ⟨x, rfl⟩ := Int.eq_ofNat_of_zero_le hc0
          rw [spec_highest x (by omega) (by omega) k (by omega), Option.bind_some]
          have h4 : (((x.log2 : Nat) : Int) < perPage b) ↔ (x : Int) < pageMax b := by
            have hx : x ≠ 0 := by omega
            rcases class_cases h3 with rfl | rfl | rfl | rfl | rfl
            · show (((x.log2 : Nat) : Int) < 16) ↔ (x : Int) < 65536
              have := Nat.log2_lt (k := 16) hx; omega
            · show (((x.log2 : Nat) : Int) < 8) ↔ (x : Int) < 256
              have := Nat.log2_lt (k := 8) hx; omega
            · show (((x.log2 : Nat) : Int) < 4) ↔ (x : Int) < 16
              have := Nat.log2_lt (k := 4) hx; omega
            · show (((x.log2 : Nat) : Int) < 2) ↔ (x : Int) < 4
              have := Nat.log2_lt (k := 2) hx; omega
            · show (((x.log2 : Nat) : Int) < 1) ↔ (x : Int) < 2
              have := Nat.log2_lt (k := 1) hx; omega
          (repeat' split) <;> (rw [Option.some.injEq, Bool.eq_iff_iff]; simp only [beq_iff_eq, decide_eq_true_eq, Bool.false_eq_true, false_iff, true_iff] at *; omega)
      · rw [if_neg (by simpa using h3), Option.some.injEq, Bool.eq_iff_iff]
        simp only [decide_eq_true_eq, Bool.false_eq_true, false_iff]
        omega
    rw [if_neg h2, if_neg h2]
    (repeat' split) <;> first | rfl | (rw [Option.some.injEq, Bool.eq_iff_iff]; simp only [beq_iff_eq, decide_eq_true_eq, Bool.false_eq_true, false_iff, true_iff] at *; omega)
  unfold spec_CtlOk.f
  split
  · exact key _ (by rw [Bool.eq_iff_iff]; simp <;> omega)
  · exact key _ (by rw [Bool.eq_iff_iff]; simp <;> omega)

/-- What a word says. -/
def ctlRead (x : Int) : Int × Int × Int × Int × Bool :=
  if ctlOk (x / 1048576 % 16) (x / 65536 % 16) (x % 65536) (x / 16777216) = true then (x / 1048576 % 16, x / 65536 % 16, x % 65536, x / 16777216, true) else (0, 0, 0, 0, false)
theorem impl_ctlRead (x : Int) (h0 : 0 ≤ x) (h1 : x ≤ 4294967295) (k : Nat) (hk : 1 < k) : impl_CtlRead.f k x = some (ctlRead x) := by
  unfold impl_CtlRead.f ctlRead
  rw [and15 (x := x / 1048576) (by omega) (by omega), and15 (x := x / 65536) (by omega) (by omega), and65535 h0 h1, w64 (n := x / 1048576 % 16) (by omega) (by omega), w64 (n := x / 65536 % 16) (by omega) (by omega), w64 (n := x / 16777216) (by omega) (by omega), impl_ctlOk _ _ _ _ k hk, Option.bind_some]
  split <;> rfl
theorem spec_ctlRead (x : Int) (h0 : 0 ≤ x) (h1 : x ≤ 4294967295) (k : Nat) (hk : 50 < k) : spec_CtlRead.f k x = some (ctlRead x) := by
  unfold spec_CtlRead.f ctlRead
  rw [w64 (n := x) (by omega) (by omega), Int.tdiv_eq_ediv_of_nonneg (b := 1048576) h0, Int.tdiv_eq_ediv_of_nonneg (b := 65536) h0, Int.tdiv_eq_ediv_of_nonneg (b := 16777216) h0, w64 (n := x / 1048576) (by omega) (by omega), w64 (n := x / 65536) (by omega) (by omega), w64 (n := x / 16777216) (by omega) (by omega),
    Int.tmod_eq_emod_of_nonneg (a := x / 1048576) (by omega), Int.tmod_eq_emod_of_nonneg (a := x / 65536) (by omega), Int.tmod_eq_emod_of_nonneg (a := x) h0, show x % 65536 % 4294967296 = x % 65536 by omega, spec_ctlOk _ _ _ _ (by omega) (by omega) k hk, Option.bind_some]
  split <;> rfl
theorem ctlOk_state {a b c d : Int} (h : ctlOk a b c d = true) : a = 0 ∨ a = 1 ∨ a = 2 ∨ a = 3 := by
  unfold ctlOk at h
  by_cases h1 : a = 0 ∨ a = 3
  · omega
  by_cases h2 : a = 1
  · omega
  by_cases h3 : a = 2
  · omega
  rw [if_neg h1, if_neg h2, if_neg h3] at h
  cases h
theorem ctlRead_state (x : Int) : (ctlRead x).1 = 0 ∨ (ctlRead x).1 = 1 ∨ (ctlRead x).1 = 2 ∨ (ctlRead x).1 = 3 := by
  unfold ctlRead
  split
  · rename_i h; exact ctlOk_state h
  · exact Or.inl rfl
end Go.Proofs.YtobboonnfocalaaGreatDoor.Base
