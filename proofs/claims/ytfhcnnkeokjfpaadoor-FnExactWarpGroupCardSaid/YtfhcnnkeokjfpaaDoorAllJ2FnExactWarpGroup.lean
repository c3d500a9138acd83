/- What the program computes and what the reference computes, in plain Lean. Conditions: none. -/
import Derived.Test.YtfhcnnkeokjfpaaDoorWMore
import Derived.Laws.BitsLemmas
import Derived.Test.YtfhcnnkeokjfpaaDoorPB1x2
import Derived.Test.YtfhcnnkeokjfpaaDoorPB1x4
import Derived.Test.YtfhcnnkeokjfpaaDoorPB1x5
import Derived.Test.YtfhcnnkeokjfpaaDoorPB1x6
import Derived.Test.YtfhcnnkeokjfpaaDoorPB1x9
import Derived.Test.YtfhcnnkeokjfpaaDoorPB1x25
import Derived.Test.YtfhcnnkeokjfpaaDoorPB1x7
import Derived.Laws.BitsAllLaws
import Derived.Test.YtfhcnnkeokjfpaaDoorLow
import Derived.Test.YtfhcnnkeokjfpaaDoorPB1x11
import Derived.Test.YtfhcnnkeokjfpaaDoorPB1x3
import Derived.Test.YtfhcnnkeokjfpaaDoorIsReq
import Derived.Test.YtfhcnnkeokjfpaaDoorPB1x13
import Derived.Test.YtfhcnnkeokjfpaaDoorPB1x12
import Derived.Test.YtfhcnnkeokjfpaaDoorPB1x14
import Derived.Test.YtfhcnnkeokjfpaaDoorPB1x15
import Derived.Test.YtfhcnnkeokjfpaaDoorPB1x16
import Derived.Test.YtfhcnnkeokjfpaaDoorPB1x17
import Derived.Test.YtfhcnnkeokjfpaaDoorPB1x18
import Derived.Test.YtfhcnnkeokjfpaaDoorPB1x8
import Derived.Test.YtfhcnnkeokjfpaaDoorPB1x10
import Derived.Test.YtfhcnnkeokjfpaaDoorPB1x26
import Derived.Test.YtfhcnnkeokjfpaaDoorWWords
import Derived.ChangeArms
import Derived.WideShapes
import Derived.ChangeShapes
set_option linter.unusedVariables false
set_option linter.unusedSimpArgs false
namespace Go.Proofs.YtfhcnnkeokjfpaaDoor.Base
open Go.RowKit Go.Proofs.YtfhcnnkeokjfpaaDoorW.PrintWords Go.Proofs.YtfhcnnkeokjfpaaDoorW.PrintLast Go.Proofs.YtfhcnnkeokjfpaaDoorW.PrintMore

theorem w64 {n : Int} (h0 : -9223372036854775808 ≤ n) (h1 : n ≤ 9223372036854775807) : wrap64 n = n := by unfold wrap64; omega
theorem wf_i64 {n : Int} (h : (Lit.int .i64 n).wf = true) : -9223372036854775808 ≤ n ∧ n ≤ 9223372036854775807 := by
  simp [Lit.wf, IntKind.min, IntKind.max, IntKind.bits, IntKind.signed] at h
  omega
theorem wf_u32 {n : Int} (h : (Lit.int .u32 n).wf = true) : 0 ≤ n ∧ n ≤ 4294967295 := by
  simp [Lit.wf, IntKind.min, IntKind.max, IntKind.bits, IntKind.signed] at h
  omega
theorem wf_u8 {n : Int} (h : (Lit.int .u8 n).wf = true) : 0 ≤ n ∧ n ≤ 255 := by
  simp [Lit.wf, IntKind.min, IntKind.max, IntKind.bits, IntKind.signed] at h
  omega
theorem rd_nat (xs : List Int) (i : Nat) : rd xs (i : Int) = xs.getD i 0 := rfl
theorem rd_mem {xs : List Int} {i : Int} (h0 : 0 ≤ i) (h1 : i < xs.length) : rd xs i ∈ xs := by
  unfold rd
  rw [List.getD_eq_getElem?_getD, List.getElem?_eq_getElem (by omega)]
  exact List.getElem_mem _

/-- A loop that fills a row of the same length, element by element. -/
theorem fill_loop {α β : Type} (xs : List α) (g : α → β) (F : Nat → List β → Int → Option (List β)) (hn : (xs.length : Int) < 9223372036854775807)
    (hend : ∀ k ys, F (k + 1) ys (xs.length : Int) = some ys)
    (hgo : ∀ k ys (i : Nat) (h : i < xs.length), ys.length = xs.length → F (k + 1) ys (i : Int) = F k (ys.set i (g xs[i])) ((i + 1 : Nat) : Int)) :
    ∀ (d : Nat) (i : Nat) (ys : List β) (k : Nat), ys.length = xs.length → i + d = xs.length → d < k → F k ys (i : Int) = some (ys.take i ++ (xs.drop i).map g)
  | 0, i, ys, k, hl, hd, hk => by
    obtain ⟨k, rfl⟩ : ∃ m, k = m + 1 := ⟨k - 1, by omega⟩
    obtain rfl : i = xs.length := by omega
    rw [hend, List.drop_length, List.map_nil, List.append_nil, List.take_of_length_le (by omega)]
  | d + 1, i, ys, k, hl, hd, hk => by
    obtain ⟨k, rfl⟩ : ∃ m, k = m + 1 := ⟨k - 1, by omega⟩
    have hi : i < xs.length := by omega
    rw [hgo k ys i hi hl, fill_loop xs g F hn hend hgo d (i + 1) _ k (by rw [List.length_set]; exact hl) (by omega) (by omega)]
    congr 1
    rw [List.drop_eq_getElem_cons hi, List.map_cons, List.take_succ_eq_append_getElem (by rw [List.length_set]; omega), List.getElem_set_self, List.append_assoc, List.singleton_append, List.take_set_of_le (Nat.le_refl i)]
/-- A loop that asks each index, and ends at the first that says no. -/
theorem all_loop (n : Nat) (p : Nat → Bool) (F : Nat → Int → Option Bool) (hend : ∀ k, F (k + 1) (n : Int) = some true)
    (hgo : ∀ k (i : Nat), i < n → F (k + 1) (i : Int) = if p i = true then F k ((i + 1 : Nat) : Int) else some false) :
    ∀ (d i k : Nat), i + d = n → d < k → ∃ b, F k (i : Int) = some b ∧ (b = true ↔ ∀ j, i ≤ j → j < n → p j = true)
  | 0, i, k, hd, hk => by
    obtain ⟨k, rfl⟩ : ∃ m, k = m + 1 := ⟨k - 1, by omega⟩
    obtain rfl : i = n := by omega
    exact ⟨true, hend k, ⟨fun _ j h1 h2 => by omega, fun _ => rfl⟩⟩
  | d + 1, i, k, hd, hk => by
    obtain ⟨k, rfl⟩ : ∃ m, k = m + 1 := ⟨k - 1, by omega⟩
    by_cases h : p i = true
    · obtain ⟨b, h1, h2⟩ := all_loop n p F hend hgo d (i + 1) k (by omega) (by omega)
      refine ⟨b, by rw [hgo k i (by omega), if_pos h]; exact h1, h2.trans ⟨fun hh j h3 h4 => ?_, fun hh j h3 h4 => hh j (by omega) h4⟩⟩
      rcases Nat.eq_or_lt_of_le h3 with rfl | h5
      · exact h
      · exact hh j h5 h4
    · exact ⟨false, by rw [hgo k i (by omega), if_neg h], ⟨(fun hh => by cases hh), fun hh => absurd (hh i (Nat.le_refl _) (by omega)) h⟩⟩
/-- What a marking leaves: the element at j is g of the number that stands there. -/
def marks {β : Type} (g : Int → β) (s : Int) : Int → Nat → List β
  | _, 0 => []
  | c, n + 1 => g c :: marks g s (c + s) n
theorem marks_length {β : Type} (g : Int → β) (s : Int) : ∀ (n : Nat) (c : Int), (marks g s c n).length = n
  | 0, _ => rfl
  | n + 1, c => by simp [marks, marks_length g s n]
theorem marks_get {β : Type} (g : Int → β) (s : Int) : ∀ (n : Nat) (c : Int) (j : Nat) (h : j < (marks g s c n).length), (marks g s c n)[j] = g (c + s * j)
  | 0, c, j, h => by simp [marks] at h
  | n + 1, c, 0, h => by simp [marks]
  | n + 1, c, j + 1, h => by
    simp only [marks, List.getElem_cons_succ]
    rw [marks_get g s n]
    congr 1
    rw [Int.natCast_add, Int.mul_add, Int.natCast_one, Int.mul_one]
    omega
theorem mark_loop {β : Type} (g : Int → β) (s : Int) (M : Int) (N : Nat) (F : Nat → List β → Int → Int → Option (Int × List β)) (hs : 0 ≤ s)
    (hend : ∀ k ys c, F (k + 1) ys c (ys.length : Int) = some (c, ys))
    (hgo : ∀ k (ys : List β) (c : Int) (i : Nat), i < ys.length → 0 ≤ c → c ≤ M → ys.length = N → F (k + 1) ys c (i : Int) = F k (ys.set i (g c)) (c + s) ((i + 1 : Nat) : Int)) :
    ∀ (d : Nat) (i : Nat) (ys : List β) (c : Int) (k : Nat), i + d = ys.length → d < k → 0 ≤ c → c + s * d ≤ M → ys.length = N → F k ys c (i : Int) = some (c + s * d, ys.take i ++ marks g s c d)
  | 0, i, ys, c, k, hd, hk, h0, h1, hN => by
    obtain ⟨k, rfl⟩ : ∃ m, k = m + 1 := ⟨k - 1, by omega⟩
    obtain rfl : i = ys.length := by omega
    rw [hend, List.take_length]
    simp [marks]
  | d + 1, i, ys, c, k, hd, hk, h0, h1, hN => by
    obtain ⟨k, rfl⟩ : ∃ m, k = m + 1 := ⟨k - 1, by omega⟩
    have hi : i < ys.length := by omega
    have e : s * ((d + 1 : Nat) : Int) = s * d + s := by rw [Int.natCast_add, Int.mul_add, Int.natCast_one, Int.mul_one]
    have hd0 : 0 ≤ s * (d : Int) := Int.mul_nonneg hs (by omega)
    rw [hgo k ys c i hi h0 (by omega) hN, mark_loop g s M N F hs hend hgo d (i + 1) _ (c + s) k (by rw [List.length_set]; omega) (by omega) (by omega) (by omega) (by rw [List.length_set]; exact hN)]
    congr 1
    rw [Prod.mk.injEq]
    refine ⟨by omega, ?_⟩
    rw [List.take_succ_eq_append_getElem (by rw [List.length_set]; omega), List.getElem_set_self, List.append_assoc, List.singleton_append, List.take_set_of_le (Nat.le_refl i)]
    rfl
theorem held_loop {β : Type} (g : Int → β) (s : Int) (M : Int) (n : Nat) (c0 : Int) (F : Nat → Int → Int → Option Int) (hs : 0 ≤ s) (hc0 : 0 ≤ c0) (hM : c0 + s * n ≤ M)
    (hend : ∀ k c, F (k + 1) c (n : Int) = some c)
    (hgo : ∀ k (i : Nat), i < n → c0 + s * i ≤ M → F (k + 1) (c0 + s * i) (i : Int) = F k (c0 + s * i + s) ((i + 1 : Nat) : Int)) :
    ∀ (d i k : Nat), i + d = n → d < k → F k (c0 + s * i) (i : Int) = some (c0 + s * n)
  | 0, i, k, hd, hk => by
    obtain ⟨k, rfl⟩ : ∃ m, k = m + 1 := ⟨k - 1, by omega⟩
    obtain rfl : i = n := by omega
    rw [hend]
  | d + 1, i, k, hd, hk => by
    obtain ⟨k, rfl⟩ : ∃ m, k = m + 1 := ⟨k - 1, by omega⟩
    have e : s * ((i + 1 : Nat) : Int) = s * i + s := by rw [Int.natCast_add, Int.mul_add, Int.natCast_one, Int.mul_one]
    have hn : s * (i : Int) ≤ s * (n : Int) := Int.mul_le_mul_of_nonneg_left (by omega) hs
    rw [hgo k i (by omega) (by omega), show c0 + s * (i : Int) + s = c0 + s * ((i + 1 : Nat) : Int) by omega]
    exact held_loop g s M n c0 F hs hc0 hM hend hgo d (i + 1) k (by omega) (by omega)
end Go.Proofs.YtfhcnnkeokjfpaaDoor.Base
set_option linter.unusedVariables false
set_option linter.unusedSimpArgs false
namespace Go.Proofs.YtfhcnnkeokjfpaaDoor.Base
open Go.RowKit Go.Proofs.YtfhcnnkeokjfpaaDoor.PB1 Go.Proofs.YtfhcnnkeokjfpaaDoorW.PrintWords Go.Proofs.YtfhcnnkeokjfpaaDoorW.PrintLast Go.Proofs.YtfhcnnkeokjfpaaDoorW.PrintMore

theorem wraps_u32 (n : Int) (h0 : 0 ≤ n) (h1 : n < 2 ^ 32) : IntKind.u32.wrap n = n := by rw [IntKind.wrap_u32]; omega
theorem and15 {x : Int} (h0 : 0 ≤ x) (h1 : x ≤ 4294967295) : Go.bits .and .u32 x 15 = x % 16 := bits_mask .u32 32 (by decide) wraps_u32 4 (by decide) x h0 (by omega)
theorem and255 {x : Int} (h0 : 0 ≤ x) (h1 : x ≤ 4294967295) : Go.bits .and .u32 x 255 = x % 256 := bits_mask .u32 32 (by decide) wraps_u32 8 (by decide) x h0 (by omega)
theorem and65535 {x : Int} (h0 : 0 ≤ x) (h1 : x ≤ 4294967295) : Go.bits .and .u32 x 65535 = x % 65536 := bits_mask .u32 32 (by decide) wraps_u32 16 (by decide) x h0 (by omega)

/-- The lowest n bits of a number, lowest first. -/
def bitsN : Nat → Nat → List Int
  | 0, _ => []
  | n + 1, x => ((x % 2 : Nat) : Int) :: bitsN n (x / 2)
theorem bitsN_length : ∀ n x, (bitsN n x).length = n
  | 0, _ => rfl
  | n + 1, x => by simp [bitsN, bitsN_length n]
/-- The places of the ones. -/
def ons : Nat → List Int → List Int
  | _, [] => []
  | i, b :: r => (if b = 1 then [(i : Int)] else []) ++ ons (i + 1) r
theorem ons_length : ∀ (l : List Int) (i : Nat), (ons i l).length ≤ l.length
  | [], _ => by simp [ons]
  | b :: r, i => by
    have := ons_length r (i + 1)
    unfold ons
    rw [List.length_append, List.length_cons]
    split <;> simp <;> omega
theorem spec_bits_loop : ∀ (d i : Nat) (x : Nat) (acc : List Int) (k : Nat), i + d = 32 → d < k → x < 4294967296 → acc.length ≤ i → spec_l01Bits.l0 k (x : Int) acc (i : Int) = some (acc ++ bitsN d x)
  | 0, i, x, acc, k, hd, hk, hx, ha => by
    obtain ⟨k, rfl⟩ : ∃ m, k = m + 1 := ⟨k - 1, by omega⟩
    simp only [spec_l01Bits.l0]
    rw [if_neg (by omega)]
    simp [bitsN]
  | d + 1, i, x, acc, k, hd, hk, hx, ha => by
    obtain ⟨k, rfl⟩ : ∃ m, k = m + 1 := ⟨k - 1, by omega⟩
    simp only [spec_l01Bits.l0]
    have e1 : Int.tdiv (x : Int) 2 % 4294967296 = ((x / 2 : Nat) : Int) := by rw [Int.tdiv_eq_ediv_of_nonneg (by omega)]; omega
    have e2 : wrap64 (Int.tmod (x : Int) 2) = ((x % 2 : Nat) : Int) := by rw [Int.tmod_eq_emod_of_nonneg (by omega), w64 (by omega) (by omega)]; omega
    rw [if_pos (by omega), if_pos (by omega), e1, e2, w64 (by omega) (by omega), show (i : Int) + 1 = ((i + 1 : Nat) : Int) by omega,
      spec_bits_loop d (i + 1) (x / 2) _ k (by omega) (by omega) (by omega) (by simp; omega), List.append_assoc]
    rfl
theorem spec_ons_loop (l : List Int) (hl : l.length = 32) : ∀ (d i : Nat) (acc : List Int) (k : Nat), i + d = 32 → d < k → acc.length ≤ i → spec_BitList.l0 k acc l (i : Int) = some (acc ++ ons i (l.drop i))
  | 0, i, acc, k, hd, hk, ha => by
    obtain ⟨k, rfl⟩ : ∃ m, k = m + 1 := ⟨k - 1, by omega⟩
    simp only [spec_BitList.l0]
    rw [if_neg (by omega), List.drop_of_length_le (by omega)]
    simp [ons]
  | d + 1, i, acc, k, hd, hk, ha => by
    obtain ⟨k, rfl⟩ : ∃ m, k = m + 1 := ⟨k - 1, by omega⟩
    have hi : i < l.length := by omega
    rw [List.drop_eq_getElem_cons hi]
    simp only [spec_BitList.l0]
    have e : rd l (i : Int) = l[i] := by unfold rd; simp [List.getD_eq_getElem?_getD, hi]
    rw [if_pos (by omega), if_pos (by omega), if_pos (by omega), e, w64 (by omega) (by omega), show (i : Int) + 1 = ((i + 1 : Nat) : Int) by omega]
    show _ = some (acc ++ ((if l[i] = 1 then [(i : Int)] else []) ++ ons (i + 1) (l.drop (i + 1))))
    by_cases c : l[i] = 1
    · rw [if_pos c, if_pos (by omega), if_pos c, spec_ons_loop l hl d (i + 1) _ k (by omega) (by omega) (by simp; omega), List.append_assoc]
    · rw [if_neg c, if_neg c, spec_ons_loop l hl d (i + 1) _ k (by omega) (by omega) (by omega), List.nil_append]
def bitList (x : Nat) : List Int := ons 0 (bitsN 32 x)
theorem spec_bitList (x : Nat) (hx : x < 4294967296) (k : Nat) (hk : 40 < k) : spec_BitList.f k (x : Int) = some (bitList x) := by
  unfold spec_BitList.f spec_l01Bits.f bitList
  have h1 := spec_bits_loop 32 0 x [] k (by omega) (by omega) hx (by simp)
  have h2 := spec_ons_loop (bitsN 32 x) (bitsN_length 32 x) 32 0 [] k (by omega) (by omega) (by simp)
  simp only [Int.natCast_zero, List.nil_append] at h1
  rw [h1, Option.bind_some]
  simpa using h2
theorem ons_zero : ∀ (n i : Nat), ons i (bitsN n 0) = []
  | 0, _ => rfl
  | n + 1, i => by simp [bitsN, ons, ons_zero n]
theorem ons_last : ∀ (n i x : Nat), x ≠ 0 → x < 2 ^ n → ∃ l, ons i (bitsN n x) = l ++ [((i + x.log2 : Nat) : Int)]
  | 0, i, x, h0, h1 => by simp at h1; omega
  | n + 1, i, x, h0, h1 => by
    by_cases c : x / 2 = 0
    · have e : x = 1 := by omega
      subst e
      refine ⟨[], ?_⟩
      simp [bitsN, ons, ons_zero, show Nat.log2 1 = 0 by decide]
    · obtain ⟨l, hl⟩ := ons_last n (i + 1) (x / 2) c (by rw [Nat.pow_succ] at h1; omega)
      refine ⟨(if ((x % 2 : Nat) : Int) = 1 then [(i : Int)] else []) ++ l, ?_⟩
      have e : x.log2 = (x / 2).log2 + 1 := by rw [Nat.log2_def x, if_pos (by omega)]
      show (if ((x % 2 : Nat) : Int) = 1 then [(i : Int)] else []) ++ ons (i + 1) (bitsN n (x / 2)) = _
      rw [hl, e, List.append_assoc, show i + 1 + (x / 2).log2 = i + ((x / 2).log2 + 1) by omega]
theorem spec_highest (x : Nat) (h0 : x ≠ 0) (hx : x < 4294967296) (k : Nat) (hk : 40 < k) : spec_Highest.f k (x : Int) = some (x.log2 : Int) := by
  unfold spec_Highest.f
  rw [spec_bitList x hx k hk, Option.bind_some]
  have hlen : (bitList x).length ≤ 32 := by have := ons_length (bitsN 32 x) 0; rw [bitsN_length] at this; exact this
  obtain ⟨l, hl⟩ := ons_last 32 0 x h0 hx
  have e : bitList x = l ++ [(x.log2 : Int)] := by unfold bitList; rw [hl]; simp
  rw [e] at hlen ⊢
  rw [List.length_append, List.length_singleton] at hlen ⊢
  rw [if_neg (by omega), w64 (by omega) (by omega), if_pos (by omega), if_pos (by omega), show ((l.length + 1 : Nat) : Int) - 1 = (l.length : Int) by omega]
  unfold rd
  simp [List.getD_eq_getElem?_getD]

def perPage (b : Int) : Int := if b = 0 then 16 else if b = 1 then 8 else if b = 2 then 4 else if b = 3 then 2 else if b = 4 then 1 else 0
def pageMax (b : Int) : Int := if b = 0 then 65536 else if b = 1 then 256 else if b = 2 then 16 else if b = 3 then 4 else 2
def ctlOk (a b c d : Int) : Bool :=
  if a = 0 ∨ a = 3 then decide (b = 0 ∧ c = 0 ∧ d = 0) else if a = 1 then decide (0 ≤ b ∧ b ≤ 4 ∧ c ≠ 0 ∧ c < pageMax b ∧ d = 0) else if a = 2 then decide (2 ≤ d ∧ d ≤ 16 ∧ b = 0 ∧ c = 0) else false
theorem within_ctl (n a b : Int) : impl_within.f n a b = some (decide (a ≤ n ∧ n ≤ b)) := by
  unfold impl_within.f
  by_cases h : n ≥ a
  · rw [if_pos h]; congr 1; rw [decide_eq_decide]; omega
  · rw [if_neg h]; congr 1; symm; rw [decide_eq_false_iff_not]; omega
theorem impl_class (b : Int) : impl_isClass.f b = some (decide (0 ≤ b ∧ b ≤ 4)) := by
  unfold impl_isClass.f
  rw [within_ctl]
  rfl
theorem class_cases {b : Int} (h : 0 ≤ b ∧ b ≤ 4) : b = 0 ∨ b = 1 ∨ b = 2 ∨ b = 3 ∨ b = 4 := by omega
theorem impl_perPage (b : Int) : impl_PerPage.f b = some (perPage b) := by
  unfold impl_PerPage.f
  rw [impl_class, Option.bind_some]
  by_cases h : 0 ≤ b ∧ b ≤ 4
  · rw [if_pos (by simpa using h)]
    rcases class_cases h with rfl | rfl | rfl | rfl | rfl <;> decide
  · rw [if_neg (by simpa using h)]
    unfold perPage
    congr 1
    (repeat' split) <;> omega
theorem spec_class (b : Int) : spec_l04Class.f b = some (decide (0 ≤ b ∧ b ≤ 4)) := by
  unfold spec_l04Class.f
  by_cases h : b ≥ 0
  · rw [if_pos h]; congr 1; rw [decide_eq_decide]; omega
  · rw [if_neg h]; congr 1; symm; rw [decide_eq_false_iff_not]; omega
theorem spec_perPage (b : Int) (k : Nat) (hk : 10 < k) : spec_PerPage.f k b = some (perPage b) := by
  obtain ⟨k, rfl⟩ : ∃ m, k = m + 10 := ⟨k - 10, by omega⟩
  unfold spec_PerPage.f
  rw [spec_class, Option.bind_some]
  by_cases h : 0 ≤ b ∧ b ≤ 4
  · rw [if_pos (by simpa using h)]
    unfold spec_l04Pow.f
    rcases class_cases h with rfl | rfl | rfl | rfl | rfl <;> simp [spec_l04Pow.l0, wrap64, perPage]
  · rw [if_neg (by simpa using h)]
    unfold perPage
    congr 1
    (repeat' split) <;> omega
theorem impl_ctlOk (a b c d : Int) (k : Nat) (hk : 1 < k) : impl_isCtl.f k a b c d = some (ctlOk a b c d) := by
  obtain ⟨k, rfl⟩ : ∃ m, k = m + 1 := ⟨k - 1, by omega⟩
  have key : ∀ q, q = decide (a = 0 ∨ a = 3) → impl_isCtl.j0 (k + 1) a q a b c d = some (ctlOk a b c d) := by
    intro q hq
    subst hq
    unfold ctlOk
    simp only [impl_isCtl.j0, impl_class, impl_perPage, within_ctl, Option.bind_some]
    by_cases h1 : a = 0 ∨ a = 3
    · rw [if_pos (by simpa using h1), if_pos h1, Option.some.injEq, Bool.eq_iff_iff]
      simp
    rw [if_neg (by simpa using h1), if_neg h1]
    by_cases h2 : a = 1
    · rw [if_pos h2, if_pos h2]
      by_cases h3 : 0 ≤ b ∧ b ≤ 4
      · rw [if_pos (by simpa using h3)]
        have h4 : 0 ≤ perPage b ∧ shl .u32 1 (perPage b) = pageMax b := by
          rcases class_cases h3 with rfl | rfl | rfl | rfl | rfl <;> decide
        rw [if_pos h4.1, h4.2]
        (repeat' split) <;> (rw [Option.some.injEq, Bool.eq_iff_iff]; simp only [beq_iff_eq, decide_eq_true_eq, Bool.false_eq_true, false_iff, true_iff] at *; omega)
      · rw [if_neg (by simpa using h3), Option.some.injEq, Bool.eq_iff_iff]
        simp only [decide_eq_true_eq, Bool.false_eq_true, false_iff]
        omega
    rw [if_neg h2, if_neg h2]
    (repeat' split) <;> first | rfl | (rw [Option.some.injEq, Bool.eq_iff_iff]; simp only [beq_iff_eq, decide_eq_true_eq, Bool.false_eq_true, false_iff, true_iff] at *; omega)
  unfold impl_isCtl.f
  split
  · exact key _ (by rw [Bool.eq_iff_iff]; simp <;> omega)
  · exact key _ (by rw [Bool.eq_iff_iff]; simp <;> omega)
theorem spec_ctlOk (a b c d : Int) (hc0 : 0 ≤ c) (hc : c < 4294967296) (k : Nat) (hk : 50 < k) : spec_CtlOk.f k a b c d = some (ctlOk a b c d) := by
  obtain ⟨k, rfl⟩ : ∃ m, k = m + 1 := ⟨k - 1, by omega⟩
  have key : ∀ q, q = decide (a = 0 ∨ a = 3) → spec_CtlOk.j0 (k + 1) a q a b c d = some (ctlOk a b c d) := by
    intro q hq
    subst hq
    unfold ctlOk
    simp only [spec_CtlOk.j0, spec_class, spec_perPage b k (by omega), Option.bind_some]
    by_cases h1 : a = 0 ∨ a = 3
    · rw [if_pos (by simpa using h1), if_pos h1]
      (repeat' split) <;> (rw [Option.some.injEq, Bool.eq_iff_iff]; simp only [beq_iff_eq, decide_eq_true_eq, Bool.false_eq_true, false_iff, true_iff] at *; omega)
    rw [if_neg (by simpa using h1), if_neg h1]
    by_cases h2 : a = 1
    · rw [if_pos h2, if_pos h2]
      by_cases h3 : 0 ≤ b ∧ b ≤ 4
      · rw [if_pos (by simpa using h3)]
        by_cases h5 : c = 0
        · rw [if_pos h5, Option.some.injEq, Bool.eq_iff_iff]
          simp [h5]
        · rw [if_neg h5]
          obtain ⟨x, rfl⟩ := Int.eq_ofNat_of_zero_le hc0
          rw [spec_highest x (by omega) (by omega) k (by omega), Option.bind_some]
          have h4 : (((x.log2 : Nat) : Int) < perPage b) ↔ (x : Int) < pageMax b := by
            have hx : x ≠ 0 := by omega
            rcases class_cases h3 with rfl | rfl | rfl | rfl | rfl
            · show (((x.log2 : Nat) : Int) < 16) ↔ (x : Int) < 65536
              have := Nat.log2_lt (k := 16) hx; omega
            · show (((x.log2 : Nat) : Int) < 8) ↔ (x : Int) < 256
              have := Nat.log2_lt (k := 8) hx; omega
            · show (((x.log2 : Nat) : Int) < 4) ↔ (x : Int) < 16
              have := Nat.log2_lt (k := 4) hx; omega
            · show (((x.log2 : Nat) : Int) < 2) ↔ (x : Int) < 4
              have := Nat.log2_lt (k := 2) hx; omega
            · show (((x.log2 : Nat) : Int) < 1) ↔ (x : Int) < 2
              have := Nat.log2_lt (k := 1) hx; omega
          (repeat' split) <;> (rw [Option.some.injEq, Bool.eq_iff_iff]; simp only [beq_iff_eq, decide_eq_true_eq, Bool.false_eq_true, false_iff, true_iff] at *; omega)
      · rw [if_neg (by simpa using h3), Option.some.injEq, Bool.eq_iff_iff]
        simp only [decide_eq_true_eq, Bool.false_eq_true, false_iff]
        omega
    rw [if_neg h2, if_neg h2]
    (repeat' split) <;> first | rfl | (rw [Option.some.injEq, Bool.eq_iff_iff]; simp only [beq_iff_eq, decide_eq_true_eq, Bool.false_eq_true, false_iff, true_iff] at *; omega)
  unfold spec_CtlOk.f
  split
  · exact key _ (by rw [Bool.eq_iff_iff]; simp <;> omega)
  · exact key _ (by rw [Bool.eq_iff_iff]; simp <;> omega)

/-- What a word says. -/
def ctlRead (x : Int) : Int × Int × Int × Int × Bool :=
  if ctlOk (x / 1048576 % 16) (x / 65536 % 16) (x % 65536) (x / 16777216) = true then (x / 1048576 % 16, x / 65536 % 16, x % 65536, x / 16777216, true) else (0, 0, 0, 0, false)
theorem impl_ctlRead (x : Int) (h0 : 0 ≤ x) (h1 : x ≤ 4294967295) (k : Nat) (hk : 1 < k) : impl_CtlRead.f k x = some (ctlRead x) := by
  unfold impl_CtlRead.f ctlRead
  rw [and15 (x := x / 1048576) (by omega) (by omega), and15 (x := x / 65536) (by omega) (by omega), and65535 h0 h1, w64 (n := x / 1048576 % 16) (by omega) (by omega), w64 (n := x / 65536 % 16) (by omega) (by omega), w64 (n := x / 16777216) (by omega) (by omega), impl_ctlOk _ _ _ _ k hk, Option.bind_some]
  split <;> rfl
theorem spec_ctlRead (x : Int) (h0 : 0 ≤ x) (h1 : x ≤ 4294967295) (k : Nat) (hk : 50 < k) : spec_CtlRead.f k x = some (ctlRead x) := by
  unfold spec_CtlRead.f ctlRead
  rw [w64 (n := x) (by omega) (by omega), Int.tdiv_eq_ediv_of_nonneg (b := 1048576) h0, Int.tdiv_eq_ediv_of_nonneg (b := 65536) h0, Int.tdiv_eq_ediv_of_nonneg (b := 16777216) h0, w64 (n := x / 1048576) (by omega) (by omega), w64 (n := x / 65536) (by omega) (by omega), w64 (n := x / 16777216) (by omega) (by omega),
    Int.tmod_eq_emod_of_nonneg (a := x / 1048576) (by omega), Int.tmod_eq_emod_of_nonneg (a := x / 65536) (by omega), Int.tmod_eq_emod_of_nonneg (a := x) h0, show x % 65536 % 4294967296 = x % 65536 by omega, spec_ctlOk _ _ _ _ (by omega) (by omega) k hk, Option.bind_some]
  split <;> rfl
theorem ctlOk_state {a b c d : Int} (h : ctlOk a b c d = true) : a = 0 ∨ a = 1 ∨ a = 2 ∨ a = 3 := by
  unfold ctlOk at h
  by_cases h1 : a = 0 ∨ a = 3
  · omega
  by_cases h2 : a = 1
  · omega
  by_cases h3 : a = 2
  · omega
  rw [if_neg h1, if_neg h2, if_neg h3] at h
  cases h
theorem ctlRead_state (x : Int) : (ctlRead x).1 = 0 ∨ (ctlRead x).1 = 1 ∨ (ctlRead x).1 = 2 ∨ (ctlRead x).1 = 3 := by
  unfold ctlRead
  split
  · rename_i h; exact ctlOk_state h
  · exact Or.inl rfl
end Go.Proofs.YtfhcnnkeokjfpaaDoor.Base
set_option linter.unusedVariables false
set_option linter.unusedSimpArgs false
namespace Go.Proofs.YtfhcnnkeokjfpaaDoor.Base
open Go.RowKit Go.Proofs.YtfhcnnkeokjfpaaDoor.PB1 Go.Proofs.YtfhcnnkeokjfpaaDoorW.PrintWords Go.Proofs.YtfhcnnkeokjfpaaDoorW.PrintLast Go.Proofs.YtfhcnnkeokjfpaaDoorW.PrintMore

def sz (b : Int) : Int := if b = 0 then 1 else if b = 1 then 2 else if b = 2 then 4 else if b = 3 then 8 else 16
theorem sz_pos (b : Int) : 1 ≤ sz b ∧ sz b ≤ 16 := by
  unfold sz
  (repeat' split) <;> omega
theorem shr_sz {b off : Int} (hb : 0 ≤ b ∧ b ≤ 4) : shr .i64 off b = off / sz b := by
  rcases class_cases hb with rfl | rfl | rfl | rfl | rfl <;> simp [shr, sz, IntKind.bits]
theorem shl_sz {b i : Int} (hb : 0 ≤ b ∧ b ≤ 4) (hi : 0 ≤ i ∧ i ≤ 100) : shl .i64 i b = i * sz b := by
  rcases class_cases hb with rfl | rfl | rfl | rfl | rfl <;> simp only [shl, sz, IntKind.bits, IntKind.wrap_i64] <;> simp <;> omega
theorem spec_size (b : Int) (hb : 0 ≤ b ∧ b ≤ 4) (k : Nat) (hk : 10 < k) : spec_ClassSize.f k b = some (sz b) := by
  obtain ⟨k, rfl⟩ : ∃ m, k = m + 10 := ⟨k - 10, by omega⟩
  unfold spec_ClassSize.f spec_l04Pow.f
  rw [spec_class, Option.bind_some, decide_eq_true hb, if_pos rfl]
  rcases class_cases hb with rfl | rfl | rfl | rfl | rfl <;> simp [spec_l04Pow.l0, wrap64, sz]


theorem bit32 {m n : Nat} (hm : m < 4294967296) (h : n < 32) : Go.bits .and .u32 (shr .u32 (m : Int) (n : Int)) 1 = ((m / 2 ^ n % 2 : Nat) : Int) := by
  unfold shr
  rw [Int.toNat_natCast, Nat.min_eq_left (by show n ≤ 32; omega)]
  have e : ((m : Int) / 2 ^ n) = ((m / 2 ^ n : Nat) : Int) := by simp
  have hle := Nat.div_le_self m (2 ^ n)
  rw [e]
  generalize m / 2 ^ n = q at hle ⊢
  rw [show (1 : Int) = 2 ^ 1 - 1 by omega, bits_mask .u32 32 (by decide) wraps_u32 1 (by decide) _ (by omega) (by omega)]
  omega
theorem impl_ons_loop (x : Nat) (hx : x < 4294967296) : ∀ (d i : Nat) (acc : List Int) (k : Nat), i + d = 32 → d < k → acc.length ≤ i → impl_BitList.l0 k (x : Int) acc (i : Int) = some (acc ++ ons i (bitsN d (x / 2 ^ i)))
  | 0, i, acc, k, hd, hk, ha => by
    obtain ⟨k, rfl⟩ : ∃ m, k = m + 1 := ⟨k - 1, by omega⟩
    simp only [impl_BitList.l0]
    rw [if_neg (by omega)]
    simp [bitsN, ons]
  | d + 1, i, acc, k, hd, hk, ha => by
    obtain ⟨k, rfl⟩ : ∃ m, k = m + 1 := ⟨k - 1, by omega⟩
    simp only [impl_BitList.l0]
    rw [if_pos (by omega), if_pos (by omega), bit32 hx (by omega), w64 (by omega) (by omega), show (i : Int) + 1 = ((i + 1 : Nat) : Int) by omega, bitsN, ons, Nat.div_div_eq_div_mul, ← Nat.pow_succ]
    by_cases c : ((x / 2 ^ i % 2 : Nat) : Int) = 1
    · rw [if_pos c, if_pos (by omega), if_pos c, impl_ons_loop x hx d (i + 1) _ k (by omega) (by omega) (by simp; omega), List.append_assoc]
    · rw [if_neg c, if_neg c, impl_ons_loop x hx d (i + 1) _ k (by omega) (by omega) (by omega), List.nil_append]
theorem impl_bitList (x : Nat) (hx : x < 4294967296) (k : Nat) (hk : 40 < k) : impl_BitList.f k (x : Int) = some (bitList x) := by
  unfold impl_BitList.f bitList
  have h := impl_ons_loop x hx 32 0 [] k (by omega) (by omega) (by simp)
  simpa using h
theorem ons_range : ∀ (l : List Int) (i : Nat) (b : Int), b ∈ ons i l → (i : Int) ≤ b ∧ b < i + l.length
  | [], _, b, h => by simp [ons] at h
  | x :: r, i, b, h => by
    unfold ons at h
    rw [List.length_cons]
    rcases List.mem_append.1 h with h | h
    · split at h
      · simp at h; omega
      · simp at h
    · have := ons_range r (i + 1) b h
      omega
theorem bitList_range {x : Nat} {b : Int} (h : b ∈ bitList x) : 0 ≤ b ∧ b < 32 := by
  have := ons_range _ _ _ h
  rw [bitsN_length] at this
  omega
theorem bitList_len (x : Nat) : (bitList x).length ≤ 32 := by
  have := ons_length (bitsN 32 x) 0
  rw [bitsN_length] at this
  exact this
theorem bitList_zero : bitList 0 = [] := ons_zero 32 0
end Go.Proofs.YtfhcnnkeokjfpaaDoor.Base
set_option linter.unusedVariables false
set_option linter.unusedSimpArgs false
namespace Go.Proofs.YtfhcnnkeokjfpaaDoor.Base
open Go.RowKit Go.Proofs.YtfhcnnkeokjfpaaDoor.PB1 Go.Proofs.YtfhcnnkeokjfpaaDoorW.PrintWords Go.Proofs.YtfhcnnkeokjfpaaDoorW.PrintLast Go.Proofs.YtfhcnnkeokjfpaaDoorW.PrintMore

theorem rd_bits : ∀ (N m n : Nat), n < N → (bitsN N m).getD n 0 = ((m / 2 ^ n % 2 : Nat) : Int)
  | 0, m, n, h => by omega
  | N + 1, m, 0, h => by simp [bitsN]
  | N + 1, m, n + 1, h => by
    have := rd_bits N (m / 2) n (by omega)
    rw [Nat.div_div_eq_div_mul, Nat.mul_comm 2, ← Nat.pow_succ] at this
    simpa [bitsN] using this
/-- The number of a list of bits, lowest first. -/
def val : List Int → Int
  | [] => 0
  | b :: r => b + 2 * val r
theorem spec_word_loop (l : List Int) (hl : l.length = 32) (hb : ∀ j : Nat, j ≤ 32 → 0 ≤ val (l.drop j) ∧ val (l.drop j) < 4294967296) (h01 : ∀ x ∈ l, 0 ≤ x ∧ x ≤ 1) : ∀ (i k : Nat), i ≤ 32 → i < k → spec_l01Word.l0 k l (val (l.drop i)) ((i : Int) - 1) = some (val l)
  | 0, k, hi, hk => by
    obtain ⟨k, rfl⟩ : ∃ m, k = m + 1 := ⟨k - 1, by omega⟩
    simp only [spec_l01Word.l0]
    rw [if_neg (by omega)]
    simp
  | i + 1, k, hi, hk => by
    obtain ⟨k, rfl⟩ : ∃ m, k = m + 1 := ⟨k - 1, by omega⟩
    have hi' : i < l.length := by omega
    have h1 := hb i (by omega)
    have h2 := hb (i + 1) (by omega)
    have h3 := h01 l[i] (List.getElem_mem hi')
    have ih := spec_word_loop l hl hb h01 i k (by omega) (by omega)
    have e : rd l (i : Int) = l[i] := by unfold rd; simp [List.getD_eq_getElem?_getD, hi']
    have ev : val (l.drop i) = l[i] + 2 * val (l.drop (i + 1)) := by rw [List.drop_eq_getElem_cons hi']; rfl
    simp only [spec_l01Word.l0]
    rw [show ((i + 1 : Nat) : Int) - 1 = (i : Int) by omega, if_pos (by omega), if_pos (by omega), if_pos (by omega), e, w64 (by omega) (by omega)]
    rw [ev] at ih h1
    rw [← ih]
    congr 1
    omega
theorem spec_bits (m : Nat) (hm : m < 65536) (k : Nat) (hk : 40 < k) : spec_l01Bits.f k (m : Int) = some (bitsN 32 m) := by
  unfold spec_l01Bits.f
  have h1 := spec_bits_loop 32 0 m [] k (by omega) (by omega) (by omega) (by simp)
  simpa using h1
end Go.Proofs.YtfhcnnkeokjfpaaDoor.Base

set_option linter.unusedVariables false
set_option linter.unusedSimpArgs false
namespace Go.Proofs.YtfhcnnkeokjfpaaDoor.Base
open Go.RowKit Go.Proofs.YtfhcnnkeokjfpaaDoor.PB1 Go.Proofs.YtfhcnnkeokjfpaaDoorW.PrintWords Go.Proofs.YtfhcnnkeokjfpaaDoorW.PrintLast Go.Proofs.YtfhcnnkeokjfpaaDoorW.PrintMore

/-- The word of a list of places. -/
def sumL : List Int → Nat
  | [] => 0
  | b :: r => 2 ^ b.toNat + sumL r
/-- Places in order, from lo on, below hi. -/
def inc : Nat → Nat → List Int → Prop
  | _, _, [] => True
  | lo, hi, b :: r => (lo : Int) ≤ b ∧ b < (hi : Int) ∧ inc (b.toNat + 1) hi r
theorem inc_mono {lo lo' hi : Nat} {l : List Int} (h : inc lo hi l) (hl : lo' ≤ lo) : inc lo' hi l := by
  cases l with
  | nil => trivial
  | cons b r => exact ⟨by have := h.1; omega, h.2⟩
theorem inc_mono_hi {hi hi' : Nat} (hh : hi ≤ hi') : ∀ (l : List Int) (lo : Nat), inc lo hi l → inc lo hi' l
  | [], _, _ => trivial
  | b :: r, lo, h => ⟨h.1, by have := h.2.1; omega, inc_mono_hi hh r _ h.2.2⟩
theorem inc_ons : ∀ (N i x : Nat), inc i (i + N) (ons i (bitsN N x))
  | 0, _, _ => trivial
  | N + 1, i, x => by
    have ih := inc_ons N (i + 1) (x / 2)
    rw [bitsN, ons]
    rw [show i + 1 + N = i + (N + 1) by omega] at ih
    by_cases c : ((x % 2 : Nat) : Int) = 1
    · rw [if_pos c]
      exact ⟨Int.le_refl _, by omega, by rw [Int.toNat_natCast]; exact ih⟩
    · rw [if_neg c, List.nil_append]
      exact inc_mono ih (by omega)
theorem inc_take {lo hi : Nat} : ∀ {l : List Int} (n : Nat), inc lo hi l → inc lo hi (l.take n) := by
  intro l
  induction l generalizing lo with
  | nil => intro n _; simp [inc]
  | cons b r ih =>
    intro n h
    cases n with
    | zero => trivial
    | succ n => exact ⟨h.1, h.2.1, ih n h.2.2⟩
theorem sum_bound : ∀ (l : List Int) (lo hi : Nat), lo ≤ hi → inc lo hi l → sumL l + 2 ^ lo ≤ 2 ^ hi
  | [], lo, hi, hl, _ => by
    have := Nat.pow_le_pow_right (n := 2) (by omega) hl
    simp [sumL]; exact this
  | b :: r, lo, hi, hl, h => by
    obtain ⟨h1, h2, h3⟩ := h
    obtain ⟨m, rfl⟩ := Int.eq_ofNat_of_zero_le (show 0 ≤ b by omega)
    simp only [Int.toNat_natCast] at h3
    have ih := sum_bound r (m + 1) hi (by omega) h3
    have hp := Nat.pow_le_pow_right (n := 2) (by omega) (show lo ≤ m by omega)
    rw [sumL, Int.toNat_natCast]
    rw [Nat.pow_succ] at ih
    omega
theorem sum_div : ∀ (l : List Int) (lo hi : Nat), inc lo hi l → ∃ q, sumL l = 2 ^ lo * q
  | [], lo, hi, _ => ⟨0, by simp [sumL]⟩
  | b :: r, lo, hi, h => by
    obtain ⟨h1, h2, h3⟩ := h
    obtain ⟨m, rfl⟩ := Int.eq_ofNat_of_zero_le (show 0 ≤ b by omega)
    simp only [Int.toNat_natCast] at h3
    obtain ⟨q, hq⟩ := sum_div r (m + 1) hi h3
    obtain ⟨d, rfl⟩ : ∃ d, m = lo + d := ⟨m - lo, by omega⟩
    refine ⟨2 ^ d + 2 ^ (d + 1) * q, ?_⟩
    rw [sumL, Int.toNat_natCast, hq, Nat.mul_add, ← Nat.pow_add, ← Nat.mul_assoc, ← Nat.pow_add, Nat.add_assoc]
theorem two_half {i q s : Nat} (h : 2 ^ i * q = 2 ^ (i + 1) * s) : q = 2 * s := by
  rw [Nat.pow_succ, Nat.mul_assoc] at h
  exact Nat.eq_of_mul_eq_mul_left (Nat.two_pow_pos i) h
theorem ons_sum : ∀ (N i : Nat) (l : List Int) (q : Nat), inc i (i + N) l → sumL l = 2 ^ i * q → ons i (bitsN N q) = l
  | 0, i, l, q, h, hq => by
    cases l with
    | nil => rfl
    | cons b r => have := h.1; have := h.2.1; omega
  | N + 1, i, l, q, h, hq => by
    have hp := Nat.two_pow_pos i
    cases l with
    | nil =>
      have : q = 0 := by
        rcases Nat.mul_eq_zero.1 (show 2 ^ i * q = 0 from hq.symm) with h | h
        · omega
        · exact h
      rw [this, ons_zero]
    | cons b r =>
      obtain ⟨h1, h2, h3⟩ := h
      obtain ⟨m, rfl⟩ := Int.eq_ofNat_of_zero_le (show 0 ≤ b by omega)
      simp only [Int.toNat_natCast] at h3
      by_cases e : m = i
      · subst e
        obtain ⟨s, hs⟩ := sum_div r (m + 1) _ h3
        rw [sumL, Int.toNat_natCast, hs] at hq
        have hq2 : q = 1 + 2 * s := by
          have : 2 ^ m * (1 + 2 * s) = 2 ^ m * q := by rw [← hq, Nat.mul_add, Nat.mul_one, Nat.pow_succ, Nat.mul_assoc]
          exact (Nat.eq_of_mul_eq_mul_left hp this).symm
        have ih := ons_sum N (m + 1) r s (by rw [show m + 1 + N = m + (N + 1) by omega]; exact h3) hs
        rw [bitsN, ons, if_pos (by omega), show q / 2 = s by omega, ih]
        rfl
      · have h' : inc (i + 1) (i + 1 + N) ((m : Int) :: r) := ⟨by omega, by omega, by rw [show i + 1 + N = i + (N + 1) by omega]; simpa using h3⟩
        obtain ⟨s, hs⟩ := sum_div _ _ _ h'
        have hq2 := two_half (hq.symm.trans hs)
        have ih := ons_sum N (i + 1) _ s h' hs
        rw [bitsN, ons, if_neg (by omega), show q / 2 = s by omega, ih]
        rfl
theorem sum_ons : ∀ (N i x : Nat), x < 2 ^ N → sumL (ons i (bitsN N x)) = 2 ^ i * x
  | 0, i, x, h => by
    have : x = 0 := by simpa using h
    subst this
    simp [bitsN, ons, sumL]
  | N + 1, i, x, h => by
    have ih := sum_ons N (i + 1) (x / 2) (by rw [Nat.pow_succ] at h; omega)
    have e : 2 ^ i * x = 2 ^ i * (x % 2) + 2 ^ (i + 1) * (x / 2) := by
      rw [Nat.pow_succ, Nat.mul_assoc, ← Nat.mul_add, Nat.mod_add_div]
    rw [bitsN, ons, e]
    by_cases c : ((x % 2 : Nat) : Int) = 1
    · rw [if_pos c, List.singleton_append, sumL, ih, Int.toNat_natCast, show x % 2 = 1 by omega, Nat.mul_one]
    · rw [if_neg c, List.nil_append, ih, show x % 2 = 0 by omega, Nat.mul_zero, Nat.zero_add]
theorem bitList_sum {l : List Int} (h : inc 0 32 l) : bitList (sumL l) = l := ons_sum 32 0 l _ (by simpa using h) (by simp)
theorem sum_bitList {x : Nat} (h : x < 4294967296) : sumL (bitList x) = x := by
  have := sum_ons 32 0 x (by simpa using h)
  unfold bitList
  simpa using this
theorem inc_bitList (x : Nat) : inc 0 32 (bitList x) := by
  have := inc_ons 32 0 x
  unfold bitList
  simpa using this

/-! ### and, or, bit by bit -/
theorem land_split (i a b : Nat) : a &&& b = 2 ^ i * (a / 2 ^ i &&& b / 2 ^ i) + (a % 2 ^ i &&& b % 2 ^ i) := by
  rw [← Nat.and_div_two_pow, ← Nat.and_mod_two_pow]
  exact (Nat.div_add_mod _ _).symm
theorem comp : ∀ (n q : Nat), q < 2 ^ n → q &&& (2 ^ n - 1 - q) = 0
  | 0, q, h => by
    have : q = 0 := by simpa using h
    subst this
    rfl
  | n + 1, q, h => by
    rw [Nat.pow_succ] at h ⊢
    have hp := Nat.two_pow_pos n
    have ih := comp n (q / 2) (by omega)
    rw [land_split 1, Nat.pow_one, show (2 ^ n * 2 - 1 - q) / 2 = 2 ^ n - 1 - q / 2 by omega, ih]
    rcases Nat.mod_two_eq_zero_or_one q with e | e
    · rw [e, Nat.zero_and]
    · rw [e, show (2 ^ n * 2 - 1 - q) % 2 = 0 by omega, Nat.and_zero]
theorem low_and {i q : Nat} (hi : i < 32) (hx : 2 ^ i * (2 * q + 1) < 4294967296) : (2 ^ i * (2 * q + 1)) &&& (4294967296 - 2 ^ i * (2 * q + 1)) = 2 ^ i := by
  have hp := Nat.two_pow_pos i
  obtain ⟨e, he⟩ : ∃ e, 32 = i + (e + 1) := ⟨31 - i, by omega⟩
  have hN : (4294967296 : Nat) = 2 ^ i * (2 ^ e * 2) := by rw [← Nat.pow_succ, ← Nat.pow_add, ← he]
  have hq : 2 * q + 1 < 2 ^ e * 2 := by
    rw [hN] at hx
    exact Nat.lt_of_mul_lt_mul_left hx
  have hs : 4294967296 - 2 ^ i * (2 * q + 1) = 2 ^ i * (2 * (2 ^ e - 1 - q) + 1) := by
    rw [hN, ← Nat.mul_sub]
    congr 1
    omega
  have h0 := comp e q (by omega)
  rw [hs, land_split i, Nat.mul_div_cancel_left _ hp, Nat.mul_div_cancel_left _ hp, Nat.mul_mod_right, Nat.zero_and, Nat.add_zero, land_split 1, Nat.pow_one, show (2 * q + 1) / 2 = q by omega, show (2 * (2 ^ e - 1 - q) + 1) / 2 = 2 ^ e - 1 - q by omega, h0, show (2 * q + 1) % 2 = 1 by omega, show (2 * (2 ^ e - 1 - q) + 1) % 2 = 1 by omega]
  simp
theorem low_rest {i q : Nat} : (2 ^ i * (2 * q + 1)) &&& (2 ^ i * (2 * q + 1) - 1) = 2 ^ i * (2 * q) := by
  have hp := Nat.two_pow_pos i
  have hs : 2 ^ i * (2 * q + 1) - 1 = 2 ^ i * (2 * q) + (2 ^ i - 1) := by rw [Nat.mul_add, Nat.mul_one]; omega
  rw [land_split i, Nat.mul_div_cancel_left _ hp, Nat.mul_mod_right, Nat.zero_and, Nat.add_zero, hs, Nat.mul_add_div hp, Nat.div_eq_of_lt (show 2 ^ i - 1 < 2 ^ i by omega)]
  simp only [Nat.add_zero]
  congr 1
  rw [land_split 1, Nat.pow_one, show (2 * q + 1) / 2 = q by omega, show (2 * q) / 2 = q by omega, Nat.and_self, show (2 * q) % 2 = 0 by omega, Nat.and_zero, Nat.add_zero]
theorem lor_split (a b : Nat) : a ||| b = 2 * (a / 2 ||| b / 2) + (a % 2 ||| b % 2) := by
  have h1 := Nat.or_div_two_pow (a := a) (b := b) (n := 1)
  have h2 := Nat.or_mod_two_pow (a := a) (b := b) (n := 1)
  rw [Nat.pow_one] at h1 h2
  rw [← h1, ← h2]
  exact (Nat.div_add_mod _ _).symm
theorem or_above {i a : Nat} (h : a < 2 ^ i) : a ||| 2 ^ i = a + 2 ^ i := by
  have := Nat.two_pow_add_eq_or_of_lt h 1
  rw [Nat.mul_one] at this
  rw [Nat.or_comm, ← this, Nat.add_comm]

/-- The places of the zeros. -/
def zs : Nat → List Int → List Int
  | _, [] => []
  | i, b :: r => (if b = 0 then [(i : Int)] else []) ++ zs (i + 1) r
theorem zs_ons : ∀ (N i x : Nat), x < 2 ^ N → zs i (bitsN N x) = ons i (bitsN N (2 ^ N - 1 - x))
  | 0, _, _, _ => rfl
  | N + 1, i, x, h => by
    rw [Nat.pow_succ] at h ⊢
    have hp := Nat.two_pow_pos N
    have ih := zs_ons N (i + 1) (x / 2) (by omega)
    rw [bitsN, bitsN, zs, ons, ih, show (2 ^ N * 2 - 1 - x) / 2 = 2 ^ N - 1 - x / 2 by omega]
    congr 1
    rcases Nat.mod_two_eq_zero_or_one x with e | e
    · rw [if_pos (by omega), if_pos (by omega)]
    · rw [if_neg (by omega), if_neg (by omega)]
theorem or_free : ∀ (N i m : Nat) (l : List Int) (q : Nat), inc i (i + N) l → (∀ b ∈ l, b ∈ zs i (bitsN N m)) → sumL l = 2 ^ i * q → m ||| q = m + q
  | 0, i, m, l, q, h, hz, hq => by
    have hp := Nat.two_pow_pos i
    have : l = [] := by
      cases l with
      | nil => rfl
      | cons b r => have := h.1; have := h.2.1; omega
    subst this
    have : q = 0 := by
      rcases Nat.mul_eq_zero.1 (show 2 ^ i * q = 0 from hq.symm) with h | h
      · omega
      · exact h
    subst this
    simp
  | N + 1, i, m, l, q, h, hz, hq => by
    have hp := Nat.two_pow_pos i
    have zr : ∀ (l : List Int) (j : Nat) (b : Int), b ∈ zs j l → (j : Int) ≤ b := by
      intro l
      induction l with
      | nil => intro j b hb; simp [zs] at hb
      | cons x r ih =>
        intro j b hb
        unfold zs at hb
        rcases List.mem_append.1 hb with hb | hb
        · split at hb
          · simp at hb; omega
          · simp at hb
        · have := ih (j + 1) b hb; omega
    cases l with
    | nil =>
      have : q = 0 := by
        rcases Nat.mul_eq_zero.1 (show 2 ^ i * q = 0 from hq.symm) with h | h
        · omega
        · exact h
      subst this
      simp
    | cons b r =>
      obtain ⟨h1, h2, h3⟩ := h
      obtain ⟨t, rfl⟩ := Int.eq_ofNat_of_zero_le (show 0 ≤ b by omega)
      simp only [Int.toNat_natCast] at h3
      have rest : ∀ b, b ∈ zs i (bitsN (N + 1) m) → (i : Int) < b → b ∈ zs (i + 1) (bitsN N (m / 2)) := by
        intro b hb hlt
        rw [bitsN, zs] at hb
        rcases List.mem_append.1 hb with hb | hb
        · split at hb
          · simp at hb; omega
          · simp at hb
        · exact hb
      have above : ∀ (r : List Int) (lo hi : Nat), inc lo hi r → ∀ b ∈ r, (lo : Int) ≤ b := by
        intro r
        induction r with
        | nil => intro lo hi _ b hb; simp at hb
        | cons x r ih =>
          intro lo hi hh b hb
          rcases List.mem_cons.1 hb with rfl | hb
          · exact hh.1
          · have := ih _ _ hh.2.2 b hb; have := hh.1; omega
      by_cases e : t = i
      · subst e
        obtain ⟨s, hs⟩ := sum_div r (t + 1) _ h3
        rw [sumL, Int.toNat_natCast, hs] at hq
        have hq2 : q = 1 + 2 * s := by
          have : 2 ^ t * (1 + 2 * s) = 2 ^ t * q := by rw [← hq, Nat.mul_add, Nat.mul_one, Nat.pow_succ, Nat.mul_assoc]
          exact (Nat.eq_of_mul_eq_mul_left hp this).symm
        have ih := or_free N (t + 1) (m / 2) r s (by rw [show t + 1 + N = t + (N + 1) by omega]; exact h3) (fun b hb => rest b (hz b (List.mem_cons_of_mem _ hb)) (by have := above r _ _ h3 b hb; omega)) hs
        have hm0 : m % 2 = 0 := by
          have := hz (t : Int) List.mem_cons_self
          rw [bitsN, zs] at this
          rcases List.mem_append.1 this with h | h
          · split at h
            · omega
            · simp at h
          · have := zr _ _ _ h; omega
        rw [lor_split, show q / 2 = s by omega, ih, hm0, show q % 2 = 1 by omega]
        simp
        omega
      · have h' : inc (i + 1) (i + 1 + N) ((t : Int) :: r) := ⟨by omega, by omega, by rw [show i + 1 + N = i + (N + 1) by omega]; simpa using h3⟩
        obtain ⟨s, hs⟩ := sum_div _ _ _ h'
        have hq2 := two_half (hq.symm.trans hs)
        have ih := or_free N (i + 1) (m / 2) _ s h' (fun b hb => rest b (hz b hb) (by have := above _ _ _ h' b hb; omega)) hs
        rw [lor_split, show q / 2 = s by omega, ih, show q % 2 = 0 by omega, Nat.or_zero]
        omega
theorem take_bits : ∀ (p N x : Nat), p ≤ N → (bitsN N x).take p = bitsN p x
  | 0, N, x, _ => by simp [bitsN]
  | p + 1, 0, x, h => by omega
  | p + 1, N + 1, x, h => by rw [bitsN, bitsN, List.take_succ_cons, take_bits p N (x / 2) (by omega)]
theorem ons_high : ∀ (p q i x : Nat), x < 2 ^ p → ons i (bitsN (p + q) x) = ons i (bitsN p x)
  | 0, q, i, x, h => by
    have : x = 0 := by simpa using h
    subst this
    rw [Nat.zero_add, ons_zero]
    rfl
  | p + 1, q, i, x, h => by
    rw [Nat.pow_succ] at h
    rw [show p + 1 + q = p + q + 1 by omega, bitsN, bitsN, ons, ons, ons_high p q (i + 1) (x / 2) (by omega)]
end Go.Proofs.YtfhcnnkeokjfpaaDoor.Base
set_option linter.unusedVariables false
set_option linter.unusedSimpArgs false
namespace Go.Proofs.YtfhcnnkeokjfpaaDoor.Base
open Go.RowKit Go.Proofs.YtfhcnnkeokjfpaaDoor.PB1 Go.Proofs.YtfhcnnkeokjfpaaDoorW.PrintWords Go.Proofs.YtfhcnnkeokjfpaaDoorW.PrintLast Go.Proofs.YtfhcnnkeokjfpaaDoorW.PrintMore

/-- A lane asks. -/
def askB (c x : Int) : Bool := decide (c = 1 ∧ 0 < x) || decide (c = 2 ∧ 0 ≤ x)
def askBits (c : Int) (vals : List Int) : List Int := vals.map fun x => if askB c x = true then 1 else 0
def mkN : List Int → Nat
  | [] => 0
  | b :: r => (if b = 1 then 1 else 0) + 2 * mkN r
theorem mkN_lt : ∀ l : List Int, mkN l < 2 ^ l.length
  | [] => by simp [mkN]
  | b :: r => by
    have := mkN_lt r
    rw [List.length_cons, Nat.pow_succ]
    unfold mkN
    split <;> omega
theorem mkN_bit : ∀ (l : List Int) (j : Nat), mkN l / 2 ^ j % 2 = if l.getD j 0 = 1 then 1 else 0
  | [], j => by simp [mkN]
  | b :: r, 0 => by
    unfold mkN
    simp only [Nat.pow_zero, Nat.div_one, List.getD_cons_zero]
    split <;> omega
  | b :: r, j + 1 => by
    have := mkN_bit r j
    rw [Nat.pow_succ, Nat.mul_comm, ← Nat.div_div_eq_div_mul]
    unfold mkN
    rw [show ((if b = 1 then 1 else 0) + 2 * mkN r) / 2 = mkN r by split <;> omega, this]
    simp
theorem mem_ons : ∀ (l : List Int) (i : Nat) (b : Int), b ∈ ons i l ↔ ∃ j : Nat, j < l.length ∧ l.getD j 0 = 1 ∧ b = ((i + j : Nat) : Int)
  | [], i, b => by simp [ons]
  | x :: r, i, b => by
    unfold ons
    rw [List.mem_append, mem_ons r (i + 1) b]
    constructor
    · rintro (h | ⟨j, h1, h2, h3⟩)
      · by_cases c : x = 1
        · rw [if_pos c, List.mem_singleton] at h
          exact ⟨0, by simp, by simpa using c, by simpa using h⟩
        · rw [if_neg c] at h; simp at h
      · exact ⟨j + 1, by simpa using h1, by simpa using h2, by rw [h3]; omega⟩
    · rintro ⟨j, h1, h2, h3⟩
      cases j with
      | zero =>
        left
        rw [if_pos (by simpa using h2), List.mem_singleton]
        simpa using h3
      | succ j => exact Or.inr ⟨j, by simpa using h1, by simpa using h2, by rw [h3]; omega⟩
theorem mem_bitList (x : Nat) (b : Int) : b ∈ bitList x ↔ ∃ j : Nat, j < 32 ∧ x / 2 ^ j % 2 = 1 ∧ b = (j : Int) := by
  unfold bitList
  rw [mem_ons, bitsN_length]
  constructor
  · rintro ⟨j, h1, h2, h3⟩
    rw [rd_bits 32 x j h1] at h2
    exact ⟨j, h1, by omega, by simpa using h3⟩
  · rintro ⟨j, h1, h2, h3⟩
    exact ⟨j, h1, by rw [rd_bits 32 x j h1]; omega, by simpa using h3⟩
theorem within_mask : ∀ (n t m : Nat), t < 2 ^ n → m < 2 ^ n → (t &&& (2 ^ n - 1 - m) = 0 ↔ ∀ j, j < n → t / 2 ^ j % 2 = 1 → m / 2 ^ j % 2 = 1)
  | 0, t, m, ht, hm => by simp at ht; subst ht; simp
  | n + 1, t, m, ht, hm => by
    have hp := Nat.two_pow_pos n
    rw [Nat.pow_succ] at ht hm
    have ih := within_mask n (t / 2) (m / 2) (by omega) (by omega)
    rw [land_split 1, Nat.pow_one, Nat.pow_succ, show (2 ^ n * 2 - 1 - m) / 2 = 2 ^ n - 1 - m / 2 by omega, show (2 ^ n * 2 - 1 - m) % 2 = 1 - m % 2 by omega]
    have hlow : (t % 2 &&& (1 - m % 2) = 0) ↔ (t % 2 = 1 → m % 2 = 1) := by
      rcases Nat.mod_two_eq_zero_or_one t with h1 | h1 <;> rcases Nat.mod_two_eq_zero_or_one m with h2 | h2 <;> rw [h1, h2] <;> simp
    constructor
    · intro h j hj hb
      have h1 : (t / 2 &&& (2 ^ n - 1 - m / 2)) = 0 := by omega
      have h2 : (t % 2 &&& (1 - m % 2)) = 0 := by omega
      cases j with
      | zero => simp only [Nat.pow_zero, Nat.div_one] at hb ⊢; exact hlow.1 h2 hb
      | succ j =>
        rw [Nat.pow_succ, Nat.mul_comm, ← Nat.div_div_eq_div_mul] at hb ⊢
        exact ih.1 h1 j (by omega) hb
    · intro h
      have h1 : (t / 2 &&& (2 ^ n - 1 - m / 2)) = 0 := ih.2 fun j hj hb => by
        have := h (j + 1) (by omega)
        rw [Nat.pow_succ, Nat.mul_comm, ← Nat.div_div_eq_div_mul, ← Nat.div_div_eq_div_mul] at this
        exact this hb
      have h2 : (t % 2 &&& (1 - m % 2)) = 0 := hlow.2 (by have := h 0 (by omega); simpa using this)
      omega
theorem ons_first : ∀ (n i x : Nat), x ≠ 0 → x < 2 ^ n → ∃ l, ons i (bitsN n x) = ((i + Lib.ctzFrom n x : Nat) : Int) :: l
  | 0, i, x, h0, h1 => by simp at h1; omega
  | n + 1, i, x, h0, h1 => by
    rw [Nat.pow_succ] at h1
    unfold bitsN ons Lib.ctzFrom
    by_cases c : x % 2 = 1
    · rw [if_pos (by omega), if_pos c]
      exact ⟨_, rfl⟩
    · obtain ⟨l, hl⟩ := ons_first n (i + 1) (x / 2) (by omega) (by omega)
      rw [if_neg (by omega), if_neg c, hl]
      exact ⟨l, by rw [List.nil_append, show i + 1 + Lib.ctzFrom n (x / 2) = i + (1 + Lib.ctzFrom n (x / 2)) by omega]⟩
theorem bitList_first {x : Nat} (h0 : x ≠ 0) (h1 : x < 4294967296) : ∃ l, bitList x = (Lib.ctz 32 x : Int) :: l := by
  obtain ⟨l, hl⟩ := ons_first 32 0 x h0 h1
  refine ⟨l, ?_⟩
  unfold bitList
  rw [hl]
  simp [Lib.ctz, h0]
theorem impl_lowest {x : Nat} (h0 : x ≠ 0) (h1 : x < 4294967296) : impl_Lowest.f (x : Int) = some (Lib.ctz 32 x : Int) := by
  unfold impl_Lowest.f
  rw [if_pos (by omega), if_neg (by omega), Int.toNat_natCast]

theorem askBits_length (c : Int) (vals : List Int) : (askBits c vals).length = vals.length := by simp [askBits]
theorem askBits_get (c : Int) (vals : List Int) (j : Nat) (h : j < vals.length) : (askBits c vals).getD j 0 = if askB c (vals.getD j 0) = true then 1 else 0 := by
  unfold askBits
  simp [List.getD_eq_getElem?_getD, List.getElem?_map, List.getElem?_eq_getElem h]
theorem askB_one {x : Int} : askB 1 x = decide (0 < x) := by simp [askB]
theorem askB_two {x : Int} : askB 2 x = decide (0 ≤ x) := by simp [askB]
theorem askB_none {c x : Int} (h1 : c ≠ 1) (h2 : c ≠ 2) : askB c x = false := by simp [askB, h1, h2]
theorem rdG (l : List Int) (i : Nat) (h : i < l.length) : rd l (i : Int) = l[i] := by
  rw [rd_nat, List.getD_eq_getElem?_getD, List.getElem?_eq_getElem h, Option.getD_some]

theorem ons_cons (i : Nat) (b : Int) (r : List Int) : ons i (b :: r) = (if b = 1 then [(i : Int)] else []) ++ ons (i + 1) r := rfl
theorem spec_asks_loop (c : Int) (vals : List Int) (hl : vals.length = 8) : ∀ (d i : Nat) (acc : List Int) (k : Nat), i + d = 8 → d < k → acc.length ≤ i →
    spec_l07Asks.l0 k c vals acc (i : Int) = some (acc ++ ons i (askBits c (vals.drop i)))
  | 0, i, acc, k, hd, hk, ha => by
    obtain ⟨k, rfl⟩ : ∃ m, k = m + 1 := ⟨k - 1, by omega⟩
    simp only [spec_l07Asks.l0]
    rw [if_neg (by omega), List.drop_eq_nil_of_le (by omega)]
    simp [askBits, ons]
  | d + 1, i, acc, k, hd, hk, ha => by
    obtain ⟨k, rfl⟩ : ∃ m, k = m + 1 := ⟨k - 1, by omega⟩
    have hi : i < vals.length := by omega
    have y := spec_asks_loop c vals hl d (i + 1) (acc ++ [(i : Int)]) k (by omega) (by omega) (by simp; omega)
    have n := spec_asks_loop c vals hl d (i + 1) acc k (by omega) (by omega) (by omega)
    have e : vals.drop i = vals[i] :: vals.drop (i + 1) := by rw [List.drop_eq_getElem_cons hi]
    have g : askBits c (vals.drop i) = (if askB c vals[i] = true then 1 else 0) :: askBits c (vals.drop (i + 1)) := by rw [e]; rfl
    rw [g, ons_cons]
    simp only [spec_l07Asks.l0]
    rw [if_pos (by omega), w64 (by omega) (by omega), show (i : Int) + 1 = ((i + 1 : Nat) : Int) by omega, rdG vals i hi, y, n]
    by_cases c1 : c = 1
    · subst c1
      rw [askB_one]
      by_cases q : 0 < vals[i]
      · rw [if_pos rfl, if_pos (by omega), if_pos q, if_pos (by omega)]
        simp [q]
      · rw [if_pos rfl, if_pos (by omega), if_neg q, if_neg (by decide)]
        simp [q]
    · by_cases c2 : c = 2
      · subst c2
        rw [askB_two]
        by_cases q : 0 ≤ vals[i]
        · rw [if_neg c1, if_pos rfl, if_pos (by omega), if_pos q, if_pos (by omega)]
          simp [q]
        · rw [if_neg c1, if_pos rfl, if_pos (by omega), if_neg q]
          simp [q]
      · rw [askB_none c1 c2, if_neg c1, if_neg c2]
        simp
theorem spec_asks (c : Int) (vals : List Int) (hl : vals.length = 8) (k : Nat) (hk : 10 < k) : spec_l07Asks.f k c vals = some (ons 0 (askBits c vals)) := by
  unfold spec_l07Asks.f
  have := spec_asks_loop c vals hl 8 0 [] k (by omega) (by omega) (by simp)
  simpa using this
theorem impl_asks_loop (c : Int) (vals q : List Int) (hl : vals.length = 8) : ∀ (d i x k : Nat), i + d = 8 → d < k → x < 2 ^ i →
    impl_asks.l0 k (x : Int) vals 8 (i : Int) c q = some ((x + 2 ^ i * mkN (askBits c (vals.drop i)) : Nat) : Int)
  | 0, i, x, k, hd, hk, hx => by
    obtain ⟨k, rfl⟩ : ∃ m, k = m + 1 := ⟨k - 1, by omega⟩
    simp only [impl_asks.l0]
    rw [if_neg (by omega), List.drop_eq_nil_of_le (by omega)]
    simp [askBits, mkN]
  | d + 1, i, x, k, hd, hk, hx => by
    obtain ⟨k, rfl⟩ : ∃ m, k = m + 1 := ⟨k - 1, by omega⟩
    have hi : i < vals.length := by omega
    have hp : 2 ^ i ≤ 2 ^ 7 := Nat.pow_le_pow_right (by omega) (by omega)
    have hs : shl .u32 1 (i : Int) = ((2 ^ i : Nat) : Int) := by
      have h1 : 2 ^ i ≤ 128 := by simpa using hp
      unfold shl
      rw [Int.toNat_natCast, Nat.min_eq_left (by show i ≤ 32; omega), IntKind.wrap_u32, Int.one_mul, show ((2 : Int) ^ i) = ((2 ^ i : Nat) : Int) by simp]
      omega
    have hor : Go.bits .or .u32 (x : Int) ((2 ^ i : Nat) : Int) = ((x + 2 ^ i : Nat) : Int) := by
      have h1 : 2 ^ i ≤ 128 := by simpa using hp
      rw [u32_or_nat x (2 ^ i) (by omega) (by omega), or_above hx]
    have y := impl_asks_loop c vals q hl d (i + 1) (x + 2 ^ i) k (by omega) (by omega) (by rw [Nat.pow_succ]; omega)
    have n := impl_asks_loop c vals q hl d (i + 1) x k (by omega) (by omega) (by rw [Nat.pow_succ]; omega)
    have e : vals.drop i = vals[i] :: vals.drop (i + 1) := by rw [List.drop_eq_getElem_cons hi]
    have g : mkN (askBits c (vals.drop i)) = (if askB c vals[i] = true then 1 else 0) + 2 * mkN (askBits c (vals.drop (i + 1))) := by
      rw [e]
      show (if (if askB c vals[i] = true then (1 : Int) else 0) = 1 then 1 else 0) + 2 * mkN (askBits c (vals.drop (i + 1))) = _
      cases askB c vals[i] <;> simp
    have ey : x + 2 ^ i + 2 ^ (i + 1) * mkN (askBits c (vals.drop (i + 1))) = x + 2 ^ i * (1 + 2 * mkN (askBits c (vals.drop (i + 1)))) := by
      rw [Nat.pow_succ, Nat.mul_add, Nat.mul_one, Nat.mul_assoc, Nat.add_assoc]
    have en : x + 2 ^ (i + 1) * mkN (askBits c (vals.drop (i + 1))) = x + 2 ^ i * (0 + 2 * mkN (askBits c (vals.drop (i + 1)))) := by
      rw [Nat.pow_succ, Nat.zero_add, Nat.mul_assoc]
    rw [ey] at y
    rw [en] at n
    rw [g]
    generalize mkN (askBits c (vals.drop (i + 1))) = M at y n ⊢
    simp only [impl_asks.l0]
    rw [if_pos (by omega), if_pos (by omega), if_pos (by omega), w64 (by omega) (by omega), show (i : Int) + 1 = ((i + 1 : Nat) : Int) by omega, rdG vals i hi, hs, hor, y, n]
    by_cases c1 : c = 1
    · subst c1
      rw [askB_one]
      by_cases z : 0 < vals[i]
      · rw [if_pos rfl, if_pos z]
        simp [z]
      · rw [if_pos rfl, if_neg z, if_neg (by decide)]
        simp [z]
    · by_cases c2 : c = 2
      · subst c2
        rw [askB_two]
        by_cases z : 0 ≤ vals[i]
        · rw [if_neg c1, if_pos rfl, if_pos z]
          simp [z]
        · rw [if_neg c1, if_pos rfl, if_neg z]
          simp [z]
      · rw [askB_none c1 c2, if_neg c1, if_neg c2]
        simp
theorem impl_asks_eq (c : Int) (vals : List Int) (hl : vals.length = 8) (k : Nat) (hk : 10 < k) : impl_asks.f k c vals = some ((mkN (askBits c vals) : Nat) : Int) := by
  unfold impl_asks.f
  have := impl_asks_loop c vals vals hl 8 0 0 k (by omega) (by omega) (by simp)
  rw [hl]
  simpa using this
theorem mkN_ask_lt (c : Int) (vals : List Int) (hl : vals.length = 8) : mkN (askBits c vals) < 256 := by
  have := mkN_lt (askBits c vals)
  rw [askBits_length, hl] at this
  simpa using this
/-- Every lane of a mask asks: the program's test and the reference's. -/
theorem asks_all (c : Int) (vals : List Int) (hl : vals.length = 8) (t : Nat) (ht : t < 4294967296) :
    Go.bits .andNot .u32 (t : Int) ((mkN (askBits c vals) : Nat) : Int) = 0 ↔ ∀ b ∈ bitList t, b ∈ ons 0 (askBits c vals) := by
  have hm := mkN_ask_lt c vals hl
  rw [u32_andNot_nat t _ ht (by omega)]
  have h := within_mask 32 t (mkN (askBits c vals)) ht (by omega)
  have e : ((t &&& (4294967295 - mkN (askBits c vals)) : Nat) : Int) = 0 ↔ t &&& (2 ^ 32 - 1 - mkN (askBits c vals)) = 0 := by
    rw [show (2 : Nat) ^ 32 - 1 = 4294967295 by omega]
    omega
  rw [e, h]
  constructor
  · intro h b hb
    obtain ⟨j, hj, hb1, rfl⟩ := (mem_bitList t b).1 hb
    have h1 := h j hj hb1
    rw [mkN_bit] at h1
    by_cases c1 : (askBits c vals).getD j 0 = 1
    · refine (mem_ons _ 0 _).2 ⟨j, ?_, c1, by simp⟩
      apply Nat.lt_of_not_le
      intro hge
      rw [List.getD_eq_getElem?_getD, List.getElem?_eq_none hge] at c1
      simp at c1
    · rw [if_neg c1] at h1
      omega
  · intro h j hj hb
    obtain ⟨i, hi, hg, he⟩ := (mem_ons _ 0 _).1 (h (j : Int) ((mem_bitList t _).2 ⟨j, hj, hb, rfl⟩))
    obtain rfl : j = i := by omega
    rw [mkN_bit, if_pos hg]
end Go.Proofs.YtfhcnnkeokjfpaaDoor.Base
set_option linter.unusedVariables false
set_option linter.unusedSimpArgs false
namespace Go.Proofs.YtfhcnnkeokjfpaaDoor.Base
open Go.RowKit Go.Proofs.YtfhcnnkeokjfpaaDoor.PB1 Go.Proofs.YtfhcnnkeokjfpaaDoorW.PrintWords Go.Proofs.YtfhcnnkeokjfpaaDoorW.PrintLast Go.Proofs.YtfhcnnkeokjfpaaDoorW.PrintMore
theorem rdI (l : List Int) (i : Nat) (h : i < l.length) : rd l (i : Int) = l[i] := by
  unfold rd
  simp [List.getD_eq_getElem?_getD, h]
theorem szIntS_eq (l : List Int) (n : Int) (hn : l.length ≤ 9223372036854775807) (h0 : 0 ≤ n) (h1 : n ≤ 1048576) : laws_szIntS.f l n = some (if n < l.length then -1 else n - l.length) := by
  unfold laws_szIntS.f
  rw [w64 (by omega) (by omega)]
  by_cases c : n < (l.length : Int)
  · rw [if_pos (by omega), if_pos c]
  · rw [if_neg (by omega), if_neg c]
theorem toIntS_eq (l : List Int) (hn : l.length ≤ 1048576) (k : Nat) (hk : l.length < k) : laws_toIntS.f k l = some l := by
  unfold laws_toIntS.f
  rw [if_pos (by omega), if_pos (by omega)]
  have h := fill_loop l id (fun k ys i => laws_toIntS.l0 k l ys i) (by omega) (fun k ys => by simp only [laws_toIntS.l0]; rw [if_neg (by omega)])
    (fun k ys i hi hl => by
      simp only [laws_toIntS.l0, Option.bind_some]
      rw [if_pos (by omega), if_pos (by omega), if_pos (by omega), rdI l i hi, w64 (by omega) (by omega)]
      rfl)
    l.length 0 (List.replicate l.length 0) k (by simp) (by omega) hk
  simpa using h
theorem eqIntS_self (l : List Int) (hn : l.length ≤ 2000000) (k : Nat) (hk : l.length < k) : laws_eqIntS.f k l l = some true := by
  unfold laws_eqIntS.f
  rw [if_pos rfl]
  obtain ⟨b, h1, h2⟩ := all_loop l.length (fun _ => true) (fun k i => laws_eqIntS.l0 k l l i) (fun k => by simp only [laws_eqIntS.l0]; rw [if_neg (by omega)])
    (fun k i hi => by
      simp only [laws_eqIntS.l0]
      rw [if_pos (by omega), if_pos (by omega), if_pos (by omega), w64 (by omega) (by omega)]
      simp) l.length 0 k (by omega) hk
  rw [show b = true from h2.2 (fun _ _ _ => rfl)] at h1
  exact h1
end Go.Proofs.YtfhcnnkeokjfpaaDoor.Base
set_option linter.unusedVariables false
set_option linter.unusedSimpArgs false
namespace Go.Proofs.YtfhcnnkeokjfpaaDoor.Base
open Go.RowKit Go.Proofs.YtfhcnnkeokjfpaaDoor.PB1 Go.Proofs.YtfhcnnkeokjfpaaDoorW.PrintWords Go.Proofs.YtfhcnnkeokjfpaaDoorW.PrintLast Go.Proofs.YtfhcnnkeokjfpaaDoorW.PrintMore
theorem spec_req_loop (c : Int) (l : List Int) (hl : l.length = 8) (hc : c = 1 ∨ c = 2) : ∀ (d i k : Nat), i + d = 8 → d < k →
    spec_ReqOk.l0 k (i : Int) c l = some ((l.drop i).all fun n => if c = 1 then decide (0 ≤ n ∧ n ≤ 256) else decide (-1 ≤ n ∧ n ≤ 4095))
  | 0, i, k, hd, hk => by
    obtain ⟨k, rfl⟩ : ∃ m, k = m + 1 := ⟨k - 1, by omega⟩
    simp only [spec_ReqOk.l0]
    rw [if_neg (by omega), List.drop_of_length_le (by omega)]
    rfl
  | d + 1, i, k, hd, hk => by
    obtain ⟨k, rfl⟩ : ∃ m, k = m + 1 := ⟨k - 1, by omega⟩
    have hi : i < l.length := by omega
    have ih := spec_req_loop c l hl hc d (i + 1) k (by omega) (by omega)
    rw [show ((i + 1 : Nat) : Int) = (i : Int) + 1 by omega] at ih
    simp only [spec_ReqOk.l0]
    rw [if_pos (by omega), if_pos (by omega), rdI l i hi, List.drop_eq_getElem_cons hi, w64 (n := (i : Int) + 1) (by omega) (by omega), List.all_cons]
    generalize l[i] = n
    rcases hc with rfl | rfl
    · rw [if_pos rfl, if_neg (show ¬ ((1 : Int) = 2) by decide)]
      simp only [if_true] at ih ⊢
      by_cases c1 : n < 0
      · rw [if_pos c1]; simp [show ¬ (0 ≤ n) by omega]
      rw [if_neg c1]
      by_cases c2 : n > 256
      · rw [if_pos c2]; simp [show ¬ (n ≤ 256) by omega]
      rw [if_neg c2, ih]
      simp [show 0 ≤ n by omega, show n ≤ 256 by omega]
    · rw [if_neg (show ¬ ((2 : Int) = 1) by decide), if_pos rfl]
      simp only [show ¬ ((2 : Int) = 1) by decide, if_false] at ih ⊢
      by_cases c1 : n < -1
      · rw [if_pos c1]; simp [show ¬ (-1 ≤ n) by omega]
      rw [if_neg c1]
      by_cases c2 : n > 4095
      · rw [if_pos c2]; simp [show ¬ (n ≤ 4095) by omega]
      rw [if_neg c2, ih]
      simp [show -1 ≤ n by omega, show n ≤ 4095 by omega]
theorem spec_req (c : Int) (l : List Int) (k : Nat) (hk : 10 < k) : spec_ReqOk.f k c l = some (reqOk c l) := by
  obtain ⟨k, rfl⟩ : ∃ m, k = m + 1 := ⟨k - 1, by omega⟩
  unfold spec_ReqOk.f reqOk
  simp only [spec_ReqOk.j0]
  by_cases hl : l.length = 8
  · rw [if_pos (by omega), decide_eq_true hl]
    by_cases c1 : c = 1
    · have h := spec_req_loop c l hl (.inl c1) 8 0 k (by omega) (by omega)
      rw [show ((0 : Nat) : Int) = 0 from rfl] at h
      subst c1
      simpa using h
    · rw [if_neg c1]
      by_cases c2 : c = 2
      · have h := spec_req_loop c l hl (.inr c2) 8 0 k (by omega) (by omega)
        rw [show ((0 : Nat) : Int) = 0 from rfl] at h
        subst c2
        simpa using h
      · rw [if_pos (by simpa using c2)]; simp [c1, c2]
  · rw [if_neg (by omega)]; simp [hl]
theorem impl_req (c : Int) (l : List Int) : impl_isReq.f c l = some (reqOk c l) := rfl
end Go.Proofs.YtfhcnnkeokjfpaaDoor.Base
set_option linter.unusedVariables false
set_option linter.unusedSimpArgs false
namespace Go.Proofs.YtfhcnnkeokjfpaaDoor.Base
open Go.RowKit Go.Proofs.YtfhcnnkeokjfpaaDoor.PB1 Go.Proofs.YtfhcnnkeokjfpaaDoorW.PrintWords Go.Proofs.YtfhcnnkeokjfpaaDoorW.PrintLast Go.Proofs.YtfhcnnkeokjfpaaDoorW.PrintMore

/-- The ones among the lowest n bits. -/
def pop : Nat → Nat → Nat
  | 0, _ => 0
  | n + 1, x => x % 2 + pop n (x / 2)
theorem len_ons : ∀ (n i x : Nat), (ons i (bitsN n x)).length = pop n x
  | 0, _, _ => rfl
  | n + 1, i, x => by
    simp only [bitsN, ons, pop, List.length_append, len_ons n]
    rcases Nat.mod_two_eq_zero_or_one x with h | h <;> rw [h] <;> simp
theorem pop_add : ∀ (m n x : Nat), pop (m + n) x = pop m x + pop n (x / 2 ^ m)
  | 0, n, x => by simp [pop]
  | m + 1, n, x => by
    rw [show m + 1 + n = (m + n) + 1 by omega]
    simp only [pop]
    rw [pop_add m n (x / 2), Nat.div_div_eq_div_mul, Nat.pow_succ, Nat.mul_comm 2 (2 ^ m)]
    omega
theorem pop8_mod (x : Nat) : pop 8 (x % 256) = pop 8 x := by
  simp only [pop]
  omega
theorem pop32 (x : Nat) : pop 32 x = pop 8 x + (pop 8 (x / 256) + (pop 8 (x / 65536) + pop 8 (x / 16777216))) := by
  rw [show (32 : Nat) = 8 + (8 + (8 + 8)) by omega, pop_add, pop_add, pop_add, Nat.div_div_eq_div_mul, Nat.div_div_eq_div_mul]
theorem pop8_le (x : Nat) : pop 8 x ≤ 8 := by
  simp only [pop]
  omega
def tab : ByteArray := ⟨#[0, 1, 1, 2, 1, 2, 2, 3, 1, 2, 2, 3, 2, 3, 3, 4, 1, 2, 2, 3, 2, 3, 3, 4, 2, 3, 3, 4, 3, 4, 4, 5, 1, 2, 2, 3, 2, 3, 3, 4, 2, 3, 3, 4, 3, 4, 4, 5, 2, 3, 3, 4, 3, 4, 4, 5, 3, 4, 4, 5, 4, 5, 5, 6, 1, 2, 2, 3, 2, 3, 3, 4, 2, 3, 3, 4, 3, 4, 4, 5, 2, 3, 3, 4, 3, 4, 4, 5, 3, 4, 4, 5, 4, 5, 5, 6, 2, 3, 3, 4, 3, 4, 4, 5, 3, 4, 4, 5, 4, 5, 5, 6, 3, 4, 4, 5, 4, 5, 5, 6, 4, 5, 5, 6, 5, 6, 6, 7, 1, 2, 2, 3, 2, 3, 3, 4, 2, 3, 3, 4, 3, 4, 4, 5, 2, 3, 3, 4, 3, 4, 4, 5, 3, 4, 4, 5, 4, 5, 5, 6, 2, 3, 3, 4, 3, 4, 4, 5, 3, 4, 4, 5, 4, 5, 5, 6, 3, 4, 4, 5, 4, 5, 5, 6, 4, 5, 5, 6, 5, 6, 6, 7, 2, 3, 3, 4, 3, 4, 4, 5, 3, 4, 4, 5, 4, 5, 5, 6, 3, 4, 4, 5, 4, 5, 5, 6, 4, 5, 5, 6, 5, 6, 6, 7, 3, 4, 4, 5, 4, 5, 5, 6, 4, 5, 5, 6, 5, 6, 6, 7, 4, 5, 5, 6, 5, 6, 6, 7, 5, 6, 6, 7, 6, 7, 7, 8]⟩
theorem tab_eq : ∀ n : Fin 256, bt tab ((n.val : Nat) : Int) = ((pop 8 n.val : Nat) : Int) := by decide +kernel
theorem tab_at (n : Nat) (h : n < 256) : bt tab (n : Int) = ((pop 8 n : Nat) : Int) := tab_eq ⟨n, h⟩
theorem tab_sum (x : Nat) (hx : x < 4294967296) : (((bt tab ((x / 16777216 : Nat) : Int) + bt tab ((x / 65536 % 256 : Nat) : Int)) % 256 + bt tab ((x / 256 % 256 : Nat) : Int)) % 256 + bt tab ((x % 256 : Nat) : Int)) % 256 = ((pop 32 x : Nat) : Int) := by
  have t1 := tab_at (x / 16777216) (by omega)
  have t2 := tab_at (x / 65536 % 256) (by omega)
  have t3 := tab_at (x / 256 % 256) (by omega)
  have t4 := tab_at (x % 256) (by omega)
  rw [pop8_mod] at t2 t3 t4
  have l1 := pop8_le (x / 16777216)
  have l2 := pop8_le (x / 65536)
  have l3 := pop8_le (x / 256)
  have l4 := pop8_le x
  have hp := pop32 x
  rw [t1, t2, t3, t4]
  generalize pop 8 (x / 16777216) = p1 at *
  generalize pop 8 (x / 65536) = p2 at *
  generalize pop 8 (x / 256) = p3 at *
  generalize pop 8 x = p4 at *
  generalize pop 32 x = p at *
  omega
def onesOf (T : ByteArray) (a0 : Int) : Option Int := if 0 ≤ (a0 / 16777216) then (if (a0 / 16777216) < 256 then (if 0 ≤ (Go.bits .and .u32 (a0 / 65536) 255) then (if (Go.bits .and .u32 (a0 / 65536) 255) < 256 then (if 0 ≤ (Go.bits .and .u32 (a0 / 256) 255) then (if (Go.bits .and .u32 (a0 / 256) 255) < 256 then (if 0 ≤ (Go.bits .and .u32 a0 255) then (if (Go.bits .and .u32 a0 255) < 256 then (some (((((((bt T (a0 / 16777216)) + (bt T (Go.bits .and .u32 (a0 / 65536) 255))) % 256) + (bt T (Go.bits .and .u32 (a0 / 256) 255))) % 256) + (bt T (Go.bits .and .u32 a0 255))) % 256)) else (none)) else (none)) else (none)) else (none)) else (none)) else (none)) else (none)) else (none)
theorem onesOf_tab (a0 : Int) : bits_OnesCount32.f a0 = onesOf tab a0 := by
  unfold bits_OnesCount32.f onesOf tab
  with_reducible rfl
theorem onesOf_eq (T : ByteArray) (x : Nat) (hx : x < 4294967296) : onesOf T (x : Int) = some ((((bt T ((x / 16777216 : Nat) : Int) + bt T ((x / 65536 % 256 : Nat) : Int)) % 256 + bt T ((x / 256 % 256 : Nat) : Int)) % 256 + bt T ((x % 256 : Nat) : Int)) % 256) := by
  unfold onesOf
  rw [and255 (x := (x : Int) / 65536) (by omega) (by omega), and255 (x := (x : Int) / 256) (by omega) (by omega), and255 (x := (x : Int)) (by omega) (by omega)]
  rw [if_pos (by omega), if_pos (by omega), if_pos (by omega), if_pos (by omega), if_pos (by omega), if_pos (by omega), if_pos (by omega), if_pos (by omega)]
  have e1 : (x : Int) / 16777216 = ((x / 16777216 : Nat) : Int) := by omega
  have e2 : (x : Int) / 65536 % 256 = ((x / 65536 % 256 : Nat) : Int) := by omega
  have e3 : (x : Int) / 256 % 256 = ((x / 256 % 256 : Nat) : Int) := by omega
  have e4 : (x : Int) % 256 = ((x % 256 : Nat) : Int) := by omega
  rw [e1, e2, e3, e4]
theorem impl_ones32 (x : Nat) (hx : x < 4294967296) : bits_OnesCount32.f (x : Int) = some ((pop 32 x : Nat) : Int) := by
  rw [onesOf_tab, onesOf_eq tab x hx, tab_sum x hx]
theorem pop32_le (x : Nat) : pop 32 x ≤ 32 := by
  rw [pop32]
  have l1 := pop8_le (x / 16777216)
  have l2 := pop8_le (x / 65536)
  have l3 := pop8_le (x / 256)
  have l4 := pop8_le x
  omega
theorem impl_ones (x : Nat) (hx : x < 4294967296) : impl_Ones.f (x : Int) = some ((pop 32 x : Nat) : Int) := by
  unfold impl_Ones.f
  rw [impl_ones32 x hx]
  rfl
theorem spec_ones (x : Nat) (hx : x < 4294967296) (k : Nat) (hk : 40 < k) : spec_Ones.f k (x : Int) = some ((pop 32 x : Nat) : Int) := by
  unfold spec_Ones.f
  rw [spec_bitList x hx k hk, Option.bind_some]
  unfold bitList
  rw [len_ons]
/-- The parts of a word. -/
theorem ctlRead_map (x : Int) : 0 ≤ (ctlRead x).2.2.1 ∧ (ctlRead x).2.2.1 < 65536 := by
  unfold ctlRead
  split
  · show 0 ≤ x % 65536 ∧ x % 65536 < 65536
    omega
  · simp
theorem ctlRead_class (x : Int) : 0 ≤ (ctlRead x).2.1 ∧ (ctlRead x).2.1 ≤ 4 := by
  unfold ctlRead
  split
  · rename_i h
    show 0 ≤ x / 65536 % 16 ∧ x / 65536 % 16 ≤ 4
    generalize x / 65536 % 16 = b at h ⊢
    unfold ctlOk at h
    (repeat' split at h) <;> simp only [decide_eq_true_eq, Bool.false_eq_true] at h <;> omega
  · simp
def room (x c : Int) : Int :=
  if (ctlRead x).2.2.2.2 = true then (if (ctlRead x).1 = 0 then perPage c else if (ctlRead x).1 = 1 ∧ (ctlRead x).2.1 = c then perPage c - (pop 32 (ctlRead x).2.2.1.toNat : Nat) else 0) else 0
theorem perPage_range (c : Int) : 0 ≤ perPage c ∧ perPage c ≤ 16 := by
  unfold perPage
  (repeat' split) <;> omega
theorem perPage_none (c : Int) (h : ¬ (0 ≤ c ∧ c ≤ 4)) : perPage c = 0 := by
  unfold perPage
  (repeat' split) <;> omega
theorem impl_room (x c : Int) (h0 : 0 ≤ x) (h1 : x ≤ 4294967295) (k : Nat) (hk : 1 < k) : impl_Room.f k x c = some (room x c) := by
  obtain ⟨k, rfl⟩ : ∃ m, k = m + 1 := ⟨k - 1, by omega⟩
  unfold impl_Room.f room impl_roomOf.f
  rw [impl_ctlRead x h0 h1 _ hk, Option.bind_some]
  have hm := ctlRead_map x
  have hp := perPage_range c
  generalize ctlRead x = r at hm ⊢
  obtain ⟨a, b, m, d, ok⟩ := r
  dsimp only at hm ⊢
  have hm' := hm
  obtain ⟨n, rfl⟩ := Int.eq_ofNat_of_zero_le hm.1
  have hl := pop32_le n
  by_cases c0 : ok = true
  · rw [if_pos c0, if_pos c0]
    by_cases c1 : a = 0
    · rw [if_pos c1, if_pos c1, impl_perPage]; rfl
    rw [if_neg c1, if_neg c1]
    by_cases c2 : a = 1
    · rw [if_pos c2]
      by_cases c3 : b = c
      · rw [if_pos (show a = 1 ∧ b = c from ⟨c2, c3⟩)]
        simp only [impl_roomOf.j0]
        rw [if_pos (by simpa using c3), impl_perPage, impl_ones n (by omega)]
        simp only [Option.bind_some, Int.toNat_natCast]
        rw [w64 (by omega) (by omega)]
      · rw [if_neg (show ¬ (a = 1 ∧ b = c) from fun h => c3 h.2)]
        simp only [impl_roomOf.j0]
        rw [if_neg (by simpa using c3)]
        rfl
    · rw [if_neg c2, if_neg (show ¬ (a = 1 ∧ b = c) from fun h => c2 h.1)]
      simp only [impl_roomOf.j0]
      rw [if_neg (by simp)]
      rfl
  · rw [if_neg c0, if_neg c0]
theorem spec_room (x c : Int) (h0 : 0 ≤ x) (h1 : x ≤ 4294967295) (k : Nat) (hk : 60 < k) : spec_Room.f k x c = some (room x c) := by
  obtain ⟨k, rfl⟩ : ∃ m, k = m + 2 := ⟨k - 2, by omega⟩
  unfold spec_Room.f room
  rw [spec_ctlRead x h0 h1 _ (by omega), Option.bind_some, spec_class]
  have hm := ctlRead_map x
  have hc := ctlRead_class x
  have hp := perPage_range c
  have hpn := perPage_none c
  generalize ctlRead x = r at hm hc ⊢
  obtain ⟨a, b, m, d, ok⟩ := r
  dsimp only at hm hc ⊢
  obtain ⟨n, rfl⟩ := Int.eq_ofNat_of_zero_le hm.1
  have hl := pop32_le n
  simp only [Option.bind_some, spec_Room.j0]
  by_cases c0 : ok = true
  · rw [if_pos c0, if_pos c0]
    by_cases cc : 0 ≤ c ∧ c ≤ 4
    · rw [if_neg (by simpa using cc)]
      by_cases c1 : a = 0
      · rw [if_pos c1, if_pos c1, spec_perPage c _ (by omega)]; rfl
      rw [if_neg c1, if_neg c1]
      by_cases c2 : a = 1
      · rw [if_pos c2]
        by_cases c3 : b = c
        · rw [if_pos (show a = 1 ∧ b = c from ⟨c2, c3⟩)]
          simp only [spec_Room.j1]
          rw [if_pos (by simpa using c3), spec_perPage c _ (by omega), spec_ones n (by omega) _ (by omega)]
          simp only [Option.bind_some, Int.toNat_natCast]
          rw [w64 (by omega) (by omega)]
        · rw [if_neg (show ¬ (a = 1 ∧ b = c) from fun h => c3 h.2)]
          simp only [spec_Room.j1]
          rw [if_neg (by simpa using c3)]
      · rw [if_neg c2, if_neg (show ¬ (a = 1 ∧ b = c) from fun h => c2 h.1)]
        simp only [spec_Room.j1]
        rw [if_neg (by simp)]
    · rw [if_pos (by rw [decide_eq_false cc]; rfl), hpn cc]
      rw [if_neg (show ¬ (a = 1 ∧ b = c) by omega)]
      simp
  · rw [if_neg c0, if_neg c0, if_pos trivial]

theorem or_comm32 (a b : Int) : Go.bits .or .u32 a b = Go.bits .or .u32 b a := by simp only [Go.bits, BitVec.or_comm]
/-- The word of its parts. -/
def word (a b c d : Int) : Int := c + 65536 * b + 1048576 * a + 16777216 * d
theorem ctlOk_ranges {a b c d : Int} (h : ctlOk a b c d = true) : (0 ≤ a ∧ a < 4) ∧ (0 ≤ b ∧ b < 5) ∧ (c = 0 ∨ 0 ≤ c → 0 ≤ c) ∧ c < 65536 ∧ (0 ≤ d ∧ d ≤ 16) := by
  unfold ctlOk pageMax at h
  by_cases h1 : a = 0 ∨ a = 3
  · rw [if_pos h1, decide_eq_true_eq] at h; omega
  by_cases h2 : a = 1
  · rw [if_neg h1, if_pos h2, decide_eq_true_eq] at h
    (repeat' split at h) <;> omega
  by_cases h3 : a = 2
  · rw [if_neg h1, if_neg h2, if_pos h3, decide_eq_true_eq] at h; omega
  rw [if_neg h1, if_neg h2, if_neg h3] at h
  cases h
theorem spec_pack (a b c d : Int) (hc0 : 0 ≤ c) (hc : c < 4294967296) (k : Nat) (hk : 60 < k) : spec_CtlPack.f k a b c d = some (if ctlOk a b c d = true then (word a b c d, true) else (0, false)) := by
  unfold spec_CtlPack.f word
  rw [spec_ctlOk a b c d hc0 hc k (by omega), Option.bind_some]
  by_cases h : ctlOk a b c d = true
  · obtain ⟨h1, h2, h3, h4, h5⟩ := ctlOk_ranges h
    rw [if_pos h, if_pos h, w64 (n := c) (by omega) (by omega), w64 (n := 65536 * b) (by omega) (by omega), w64 (n := 1048576 * a) (by omega) (by omega), w64 (n := 16777216 * d) (by omega) (by omega), w64 (n := c + 65536 * b) (by omega) (by omega), w64 (n := c + 65536 * b + 1048576 * a) (by omega) (by omega), w64 (by omega) (by omega)]
    congr 2
    omega
  · rw [if_neg h, if_neg h]
theorem ctlRead_word (a b c d : Int) (hc0 : 0 ≤ c) (h : ctlOk a b c d = true) : ctlRead (word a b c d) = (a, b, c, d, true) := by
  obtain ⟨h1, h2, h3, h4, h5⟩ := ctlOk_ranges h
  unfold ctlRead word
  rw [show (c + 65536 * b + 1048576 * a + 16777216 * d) / 1048576 % 16 = a by omega, show (c + 65536 * b + 1048576 * a + 16777216 * d) / 65536 % 16 = b by omega, show (c + 65536 * b + 1048576 * a + 16777216 * d) % 65536 = c by omega, show (c + 65536 * b + 1048576 * a + 16777216 * d) / 16777216 = d by omega, if_pos h]
theorem word_range (a b c d : Int) (hc0 : 0 ≤ c) (h : ctlOk a b c d = true) : 0 ≤ word a b c d ∧ word a b c d ≤ 4294967295 := by
  obtain ⟨h1, h2, h3, h4, h5⟩ := ctlOk_ranges h
  unfold word
  omega
end Go.Proofs.YtfhcnnkeokjfpaaDoor.Base
set_option linter.unusedVariables false
set_option linter.unusedSimpArgs false
namespace Go.Proofs.YtfhcnnkeokjfpaaDoor.Base
open Go.RowKit Go.Proofs.YtfhcnnkeokjfpaaDoor.PB1 Go.Proofs.YtfhcnnkeokjfpaaDoorW.PrintWords Go.Proofs.YtfhcnnkeokjfpaaDoorW.PrintLast Go.Proofs.YtfhcnnkeokjfpaaDoorW.PrintMore

theorem clear_bit : ∀ (n i a : Nat), i < n → a < 2 ^ n → a / 2 ^ i % 2 = 1 → a &&& (2 ^ n - 1 - 2 ^ i) = a - 2 ^ i
  | 0, i, a, hi, _, _ => by omega
  | n + 1, 0, a, hi, ha, hb => by
    have hN : 0 < 2 ^ n := Nat.two_pow_pos n
    rw [Nat.pow_succ] at ha ⊢
    simp only [Nat.pow_zero, Nat.div_one] at hb ⊢
    have e1 : (a &&& (2 ^ n * 2 - 1 - 1)) / 2 = a / 2 := by
      have := Nat.and_div_two_pow (a := a) (b := 2 ^ n * 2 - 1 - 1) (n := 1)
      rw [Nat.pow_one] at this
      rw [this, show (2 ^ n * 2 - 1 - 1) / 2 = 2 ^ n - 1 by omega, Nat.and_two_pow_sub_one_eq_mod, Nat.mod_eq_of_lt (by omega)]
    have e2 : ¬ (a &&& (2 ^ n * 2 - 1 - 1)) % 2 = 1 := by rw [Nat.and_mod_two_eq_one]; omega
    omega
  | n + 1, i + 1, a, hi, ha, hb => by
    have hN : 2 ^ i < 2 ^ n := Nat.pow_lt_pow_right (by omega) (by omega)
    have hP : 0 < 2 ^ i := Nat.two_pow_pos i
    have hb' : a / 2 / 2 ^ i % 2 = 1 := by rw [Nat.div_div_eq_div_mul, Nat.mul_comm 2, ← Nat.pow_succ]; exact hb
    rw [Nat.pow_succ] at ha
    rw [Nat.pow_succ, Nat.pow_succ]
    have ih := clear_bit n i (a / 2) (by omega) (by omega) hb'
    have e1 : (a &&& (2 ^ n * 2 - 1 - 2 ^ i * 2)) / 2 = a / 2 - 2 ^ i := by
      have := Nat.and_div_two_pow (a := a) (b := 2 ^ n * 2 - 1 - 2 ^ i * 2) (n := 1)
      rw [Nat.pow_one] at this
      rw [this, show (2 ^ n * 2 - 1 - 2 ^ i * 2) / 2 = 2 ^ n - 1 - 2 ^ i by omega, ih]
    have e2 : (a &&& (2 ^ n * 2 - 1 - 2 ^ i * 2)) % 2 = 1 ↔ a % 2 = 1 ∧ (2 ^ n * 2 - 1 - 2 ^ i * 2) % 2 = 1 := Nat.and_mod_two_eq_one
    have e3 : 2 ^ i ≤ a / 2 := by
      rcases Nat.lt_or_ge (a / 2) (2 ^ i) with h | h
      · rw [Nat.div_eq_of_lt h] at hb'; omega
      · exact h
    omega
theorem pow16 {n : Nat} (h : n < 16) : 1 ≤ 2 ^ n ∧ 2 ^ n < 65536 := ⟨Nat.two_pow_pos n, Nat.pow_lt_pow_right (a := 2) (by omega) h⟩
theorem shl1 {n : Nat} (h : n < 16) : shl .u32 1 (n : Int) = ((2 ^ n : Nat) : Int) := by
  have hp := pow16 h
  unfold shl
  rw [Int.toNat_natCast, Nat.min_eq_left (by show n ≤ 32; omega), IntKind.wrap_u32, Int.one_mul]
  have e : ((2 : Int) ^ n) = ((2 ^ n : Nat) : Int) := by simp
  rw [e]
  omega
theorem bit_at {m n : Nat} (hm : m < 65536) (h : n < 16) : Go.bits .and .u32 (shr .u32 (m : Int) (n : Int)) 1 = ((m / 2 ^ n % 2 : Nat) : Int) := by
  unfold shr
  rw [Int.toNat_natCast, Nat.min_eq_left (by show n ≤ 32; omega)]
  have e : ((m : Int) / 2 ^ n) = ((m / 2 ^ n : Nat) : Int) := by simp
  have hle := Nat.div_le_self m (2 ^ n)
  rw [e]
  generalize m / 2 ^ n = q at hle ⊢
  rw [show (1 : Int) = 2 ^ 1 - 1 by omega, bits_mask .u32 32 (by decide) wraps_u32 1 (by decide) _ (by omega) (by omega)]
  omega
theorem clear_at {m n : Nat} (hm : m < 65536) (h : n < 16) (hb : m / 2 ^ n % 2 = 1) : Go.bits .andNot .u32 (m : Int) (shl .u32 1 (n : Int)) = ((m - 2 ^ n : Nat) : Int) := by
  have hp := pow16 h
  rw [shl1 h, u32_andNot_nat m (2 ^ n) (by omega) (by omega), show (4294967295 : Nat) = 2 ^ 32 - 1 by omega, clear_bit 32 n m (by omega) (by omega) hb]

/-- The word after the release, the block's size, and whether there was a block. -/
def relOf (b : Int) (m : Nat) (off : Int) : Int × Int × Bool :=
  if (0 ≤ off ∧ off ≤ 15) ∧ off / sz b * sz b = off ∧ m / 2 ^ (off / sz b).toNat % 2 = 1 then
    (if m - 2 ^ (off / sz b).toNat = 0 then 0 else word 1 b ((m - 2 ^ (off / sz b).toNat : Nat) : Int) 0, sz b, true)
  else (0, 0, false)
def release (x off : Int) : Int × Int × Bool :=
  if (ctlRead x).2.2.2.2 = true ∧ (ctlRead x).1 = 1 then relOf (ctlRead x).2.1 (ctlRead x).2.2.1.toNat off else (0, 0, false)
theorem quot {b off : Int} (h : 0 ≤ off ∧ off ≤ 15) : ∃ n : Nat, off / sz b = (n : Int) ∧ n < 16 := by
  have hs := sz_pos b
  have h1 : 0 ≤ off / sz b := Int.ediv_nonneg h.1 (by omega)
  have h2 : off / sz b ≤ off := Int.ediv_le_self _ h.1
  exact ⟨(off / sz b).toNat, by omega, by omega⟩
theorem ctl_page {x : Int} (h : (ctlRead x).2.2.2.2 = true) (h1 : (ctlRead x).1 = 1) : x / 65536 % 16 = (ctlRead x).2.1 ∧ (ctlRead x).2.2.2.1 = 0 ∧ ctlOk 1 (ctlRead x).2.1 (ctlRead x).2.2.1 0 = true := by
  unfold ctlRead at *
  by_cases c : ctlOk (x / 1048576 % 16) (x / 65536 % 16) (x % 65536) (x / 16777216) = true
  · rw [if_pos c] at *
    dsimp only at *
    rw [h1] at c
    have c' := c
    unfold ctlOk at c'
    rw [if_neg (by omega), if_pos rfl, decide_eq_true_eq] at c'
    obtain ⟨_, _, _, _, e⟩ := c'
    rw [e] at c
    exact ⟨rfl, e, c⟩
  · rw [if_neg c] at h
    cases h
theorem page_less {b c d : Int} (h : ctlOk 1 b c 0 = true) (hd : d ≠ 0) (hdc : d ≤ c) : ctlOk 1 b d 0 = true := by
  unfold ctlOk at *
  rw [if_neg (by omega), if_pos rfl, decide_eq_true_eq] at *
  omega
def oneAt (n : Nat) : List Int := (List.replicate 32 (0 : Int)).set n 1
theorem oneAt_facts : ∀ n : Fin 16, val (oneAt n.val) = 2 ^ n.val ∧ (∀ x ∈ oneAt n.val, 0 ≤ x ∧ x ≤ 1) ∧ ∀ j : Fin 33, 0 ≤ val ((oneAt n.val).drop j.val) ∧ val ((oneAt n.val).drop j.val) < 4294967296 := by decide +kernel
theorem spec_oneAt {n : Nat} (h : n < 16) (k : Nat) (hk : 40 < k) : spec_l01Word.f k (oneAt n) = some ((2 ^ n : Nat) : Int) := by
  obtain ⟨h1, h2, h3⟩ := oneAt_facts ⟨n, h⟩
  dsimp only at h1 h2 h3
  have hl : (oneAt n).length = 32 := by simp [oneAt]
  have L := spec_word_loop (oneAt n) hl (fun j hj => h3 ⟨j, by omega⟩) h2 32 k (by omega) (by omega)
  unfold spec_l01Word.f
  rw [hl, w64 (by omega) (by omega)]
  rw [List.drop_of_length_le (by omega), h1] at L
  rw [show ((2 ^ n : Nat) : Int) = 2 ^ n by simp]
  exact L
theorem spec_bitsOf {n : Nat} (h : n < 16) (k : Nat) (hk : 50 < k) : spec_BitsOf.f k [(n : Int)] = some (((2 ^ n : Nat) : Int), true) := by
  obtain ⟨k, rfl⟩ : ∃ m, k = m + 2 := ⟨k - 2, by omega⟩
  unfold spec_BitsOf.f
  rw [if_pos (by omega)]
  simp only [spec_BitsOf.l0]
  have e1 : rd [(n : Int)] 0 = (n : Int) := rfl
  have e2 : rd (List.replicate 32 (0 : Int)) (n : Int) = 0 := by unfold rd; rw [List.getD_eq_getElem?_getD, List.getElem?_replicate, Int.toNat_natCast, if_pos (by omega)]; rfl
  rw [if_pos (by simp), if_pos (by omega), e1, if_neg (by omega), if_neg (by omega), if_pos (by omega), if_pos (by simp; omega), e2, if_neg (by omega), w64 (by omega) (by omega), if_neg (by simp)]
  show (spec_l01Word.f k (oneAt n)).bind _ = _
  rw [spec_oneAt h k (by omega)]
  rfl
theorem spec_blockAt (x off : Int) (h0 : 0 ≤ x) (h1 : x ≤ 4294967295) (k : Nat) (hk : 60 < k) : spec_BlockAt.f k x off = some (if (ctlRead x).2.2.2.2 = true ∧ (ctlRead x).1 = 1 ∧ (0 ≤ off ∧ off ≤ 15) ∧ (ctlRead x).2.2.1.toNat / 2 ^ (off / sz (ctlRead x).2.1).toNat % 2 = 1 then (off / sz (ctlRead x).2.1 * sz (ctlRead x).2.1, sz (ctlRead x).2.1, true) else (0, 0, false)) := by
  obtain ⟨k, rfl⟩ : ∃ m, k = m + 1 := ⟨k - 1, by omega⟩
  have hm := ctlRead_map x
  have hc := ctlRead_class x
  unfold spec_BlockAt.f
  rw [spec_ctlRead x h0 h1 _ (by omega), Option.bind_some]
  generalize ctlRead x = r at hm hc ⊢
  obtain ⟨a, b, m, d, ok⟩ := r
  dsimp only at hm hc ⊢
  obtain ⟨m, rfl⟩ := Int.eq_ofNat_of_zero_le hm.1
  rw [Int.toNat_natCast]
  by_cases c0 : ok = true
  · rw [if_pos c0]
    by_cases c1 : a = 1
    · rw [if_pos c1]
      by_cases c2 : 0 ≤ off ∧ off ≤ 15
      · obtain ⟨n, hn, hn16⟩ := quot (b := b) c2
        have hs := sz_pos b
        rw [if_neg (show ¬ off < 0 by omega), decide_eq_false (show ¬ off ≥ 16 by omega), hn, Int.toNat_natCast]
        simp only [spec_BlockAt.j0]
        have hq : wrap64 (Int.tdiv off (sz b)) = (n : Int) := by rw [Int.tdiv_eq_ediv_of_nonneg c2.1, hn, w64 (by omega) (by omega)]
        have hle : (n : Int) * sz b ≤ off := by rw [← hn]; exact Int.ediv_mul_le off (by omega)
        have hge : 0 ≤ (n : Int) * sz b := Int.mul_nonneg (by omega) (by omega)
        rw [if_neg (by simp), spec_size b hc k (by omega), Option.bind_some, spec_bits m (by omega) k (by omega), Option.bind_some, if_neg (by omega), hq, bitsN_length, if_pos (by omega), if_pos (by omega), w64 (by omega) (by omega)]
        have e : rd (bitsN 32 m) (n : Int) = ((m / 2 ^ n % 2 : Nat) : Int) := rd_bits 32 m n (by omega)
        rw [e]
        by_cases c4 : m / 2 ^ n % 2 = 1
        · rw [c4, if_neg (by omega), if_pos (show ok = true ∧ a = 1 ∧ (0 ≤ off ∧ off ≤ 15) ∧ (1 : Nat) = 1 from ⟨c0, c1, c2, rfl⟩)]
        · rw [show m / 2 ^ n % 2 = 0 by omega, if_pos (by omega), if_neg (fun h => absurd h.2.2.2 (by omega))]
      · have hN : ¬ (ok = true ∧ a = 1 ∧ (0 ≤ off ∧ off ≤ 15) ∧ m / 2 ^ (off / sz b).toNat % 2 = 1) := fun h => c2 h.2.2.1
        by_cases c3 : off < 0
        · rw [if_pos c3, if_neg hN]; simp [spec_BlockAt.j0]
        · rw [if_neg c3, decide_eq_true (show off ≥ 16 by omega), if_neg hN]; simp [spec_BlockAt.j0]
    · rw [if_neg c1, if_neg (fun h => c1 h.2.1)]
      simp [spec_BlockAt.j0]
  · rw [if_neg c0, if_neg (fun h => c0 h.1)]
    simp [spec_BlockAt.j0]
theorem spec_release (x off : Int) (h0 : 0 ≤ x) (h1 : x ≤ 4294967295) (k : Nat) (hk : 100 < k) : spec_Release.f k x off = some (release x off) := by
  obtain ⟨k, rfl⟩ : ∃ m, k = m + 1 := ⟨k - 1, by omega⟩
  have hm := ctlRead_map x
  have hc := ctlRead_class x
  have hpg := @ctl_page x
  unfold spec_Release.f release relOf
  rw [spec_blockAt x off h0 h1 _ (by omega), Option.bind_some]
  simp only [spec_Release.j0, spec_ctlRead x h0 h1 k (by omega), Option.bind_some]
  generalize ctlRead x = r at hm hc hpg ⊢
  obtain ⟨a, b, m, d, ok⟩ := r
  dsimp only at hm hc hpg ⊢
  obtain ⟨m, rfl⟩ := Int.eq_ofNat_of_zero_le hm.1
  rw [Int.toNat_natCast]
  by_cases c0 : ok = true ∧ a = 1 ∧ (0 ≤ off ∧ off ≤ 15) ∧ m / 2 ^ (off / sz b).toNat % 2 = 1
  · rw [if_pos c0]
    obtain ⟨p0, p1, c2, c4⟩ := c0
    obtain ⟨q1, q2, q3⟩ := hpg p0 p1
    rw [if_pos rfl, if_pos (show ok = true ∧ a = 1 from ⟨p0, p1⟩)]
    by_cases c3 : off / sz b * sz b = off
    · rw [if_pos (show (0 ≤ off ∧ off ≤ 15) ∧ off / sz b * sz b = off ∧ m / 2 ^ (off / sz b).toNat % 2 = 1 from ⟨c2, c3, c4⟩)]
      obtain ⟨n, hn, hn16⟩ := quot (b := b) c2
      have hs := sz_pos b
      rw [if_neg (by simpa using c3), if_neg (by dsimp only; omega)]
      have hq : wrap64 (Int.tdiv off (sz b)) = (n : Int) := by rw [Int.tdiv_eq_ediv_of_nonneg c2.1, hn, w64 (by omega) (by omega)]
      dsimp only
      rw [hn, Int.toNat_natCast] at c4
      rw [hq, spec_bitsOf hn16 k (by omega), Option.bind_some, hn, Int.toNat_natCast]
      have hp := pow16 hn16
      have hge : 2 ^ n ≤ m := by
        rcases Nat.lt_or_ge m (2 ^ n) with h | h
        · rw [Nat.div_eq_of_lt h] at c4; omega
        · exact h
      have hlt : m < 65536 := by omega
      dsimp only
      have e : ((m : Int) - ((2 ^ n : Nat) : Int)) % 4294967296 = ((m - 2 ^ n : Nat) : Int) := by
        generalize 2 ^ n = P at hp hge ⊢
        omega
      rw [e]
      have hle := Nat.sub_le m (2 ^ n)
      generalize m - 2 ^ n = q at hle ⊢
      by_cases c5 : q = 0
      · rw [if_pos (by omega), if_pos c5]
      · rw [if_neg (by omega), if_neg c5, p1, q2, spec_pack 1 b (q : Int) 0 (by omega) (by omega) k (by omega), if_pos (page_less q3 (by omega) (by omega))]
        rfl
    · have hN : ¬ ((0 ≤ off ∧ off ≤ 15) ∧ off / sz b * sz b = off ∧ m / 2 ^ (off / sz b).toNat % 2 = 1) := fun h => c3 h.2.1
      have hne : (off / sz b * sz b != off) = true := by simpa using c3
      dsimp only
      rw [hne, if_pos rfl, if_neg hN]
  · rw [if_neg c0, if_neg (by simp), if_pos trivial]
    by_cases p : ok = true ∧ a = 1
    · rw [if_pos p, if_neg (fun h => c0 ⟨p.1, p.2, h.1, h.2.2⟩)]
    · rw [if_neg p]
end Go.Proofs.YtfhcnnkeokjfpaaDoor.Base
set_option linter.unusedVariables false
set_option linter.unusedSimpArgs false
namespace Go.Proofs.YtfhcnnkeokjfpaaDoor.Base
open Go.RowKit Go.Proofs.YtfhcnnkeokjfpaaDoor.PB1 Go.Proofs.YtfhcnnkeokjfpaaDoorW.PrintWords Go.Proofs.YtfhcnnkeokjfpaaDoorW.PrintLast Go.Proofs.YtfhcnnkeokjfpaaDoorW.PrintMore

theorem beq_dec (a b : Int) : (a == b) = decide (a = b) := rfl
/-- What starts at an offset of a chunk can be given back. -/
def gives (x off : Int) : Bool := (release x off).2.2 || ((ctlRead x).2.2.2.2 && (decide ((ctlRead x).1 = 2) && decide (off = 0)))
theorem spec_gives (x off : Int) (h0 : 0 ≤ x) (h1 : x ≤ 4294967295) (k : Nat) (hk : 100 < k) : spec_l07Gives.f k x off = some (gives x off) := by
  unfold spec_l07Gives.f gives
  rw [spec_release x off h0 h1 k hk, spec_ctlRead x h0 h1 k (by omega)]
  simp only [Option.bind_some]
  cases (release x off).2.2 <;> cases (ctlRead x).2.2.2.2 <;> simp
  by_cases c : (ctlRead x).1 = 2 <;> simp [c, beq_dec]
theorem impl_gives (x off : Int) (h0 : 0 ≤ x) (h1 : x ≤ 4294967295) (k : Nat) (hk : 1 < k) : impl_mayGive.f k x off = some (gives x off) := by
  have hm := ctlRead_map x
  have hc := ctlRead_class x
  unfold impl_mayGive.f gives release
  rw [impl_ctlRead x h0 h1 _ hk, Option.bind_some]
  generalize ctlRead x = r at hm hc ⊢
  obtain ⟨a, b, m, d, ok⟩ := r
  dsimp only at hm hc ⊢
  obtain ⟨m, rfl⟩ := Int.eq_ofNat_of_zero_le hm.1
  rw [Int.toNat_natCast]
  by_cases c0 : ok = true
  · rw [if_pos c0]
    subst c0
    unfold impl_startsBlock.f
    by_cases c1 : a = 1
    · subst c1
      rw [if_pos rfl, if_pos (show true = true ∧ (1 : Int) = 1 from ⟨rfl, rfl⟩), within_ctl, Option.bind_some]
      unfold relOf
      by_cases c2 : 0 ≤ off ∧ off ≤ 15
      · obtain ⟨n, hn, hn16⟩ := quot (b := b) c2
        rw [decide_eq_true c2, if_pos rfl, if_pos hc.1, shr_sz hc, hn, shl_sz hc (by omega), Int.toNat_natCast]
        by_cases c3 : (n : Int) * sz b = off
        · rw [if_pos c3, if_pos (by omega), bit_at (by omega) hn16]
          by_cases c4 : m / 2 ^ n % 2 = 1
          · rw [if_pos (show (0 ≤ off ∧ off ≤ 15) ∧ (n : Int) * sz b = off ∧ m / 2 ^ n % 2 = 1 from ⟨c2, c3, c4⟩), c4]
            simp
          · rw [if_neg (show ¬ ((0 ≤ off ∧ off ≤ 15) ∧ (n : Int) * sz b = off ∧ m / 2 ^ n % 2 = 1) from fun h => c4 h.2.2), show m / 2 ^ n % 2 = 0 by omega]
            simp
        · rw [if_neg c3, if_neg (show ¬ ((0 ≤ off ∧ off ≤ 15) ∧ (n : Int) * sz b = off ∧ m / 2 ^ n % 2 = 1) from fun h => c3 h.2.1)]
          simp
      · rw [decide_eq_false c2, if_neg (by simp), if_neg (show ¬ ((0 ≤ off ∧ off ≤ 15) ∧ off / sz b * sz b = off ∧ m / 2 ^ (off / sz b).toNat % 2 = 1) from fun h => c2 h.1)]
        simp
    · rw [if_neg c1, if_neg (show ¬ (true = true ∧ a = 1) from fun h => c1 h.2)]
      by_cases c5 : a = 2 <;> simp [c5]
      by_cases c6 : off = 0 <;> simp [c6]
  · rw [if_neg c0, if_neg (show ¬ (ok = true ∧ a = 1) from fun h => c0 h.1)]
    replace c0 := Bool.eq_false_iff.mpr c0
    subst c0
    simp

/-- A fact that holds with some fuel holds with more. -/
theorem up {α : Type} {f : Nat → Option α} (hm : ∀ k, LeO (f k) (f (k + 1))) {k0 : Nat} {r : α} (h : f k0 = some r) : ∀ k, k0 ≤ k → f k = some r := by
  intro k hk
  obtain ⟨d, rfl⟩ : ∃ d, k = k0 + d := ⟨k - k0, by omega⟩
  induction d with
  | zero => exact h
  | succ d ih => exact hm (k0 + d) r (ih (by omega))
def cls (v : Int) : Int := if v = 1 then 0 else if v = 2 then 1 else if v ≤ 4 then 2 else if v ≤ 8 then 3 else 4
theorem impl_cls_all : ∀ n : Fin 16, impl_ClassOf.f 20 ((n.val : Int) + 1) = some (cls ((n.val : Int) + 1)) := by decide +kernel
theorem spec_cls_all : ∀ n : Fin 16, spec_ClassOf.f 40 ((n.val : Int) + 1) = some (cls ((n.val : Int) + 1)) := by decide +kernel
theorem impl_cls {v : Int} (h : 1 ≤ v ∧ v ≤ 16) (k : Nat) (hk : 20 ≤ k) : impl_ClassOf.f k v = some (cls v) := by
  have h0 := impl_cls_all ⟨(v - 1).toNat, by omega⟩
  rw [show (((v - 1).toNat : Nat) : Int) + 1 = v by omega] at h0
  exact up (f := fun k => impl_ClassOf.f k v) (fun k => impl_ClassOf.mono v k) h0 k hk
theorem spec_cls {v : Int} (h : 1 ≤ v ∧ v ≤ 16) (k : Nat) (hk : 40 ≤ k) : spec_ClassOf.f k v = some (cls v) := by
  have h0 := spec_cls_all ⟨(v - 1).toNat, by omega⟩
  rw [show (((v - 1).toNat : Nat) : Int) + 1 = v by omega] at h0
  exact up (f := fun k => spec_ClassOf.f k v) (fun k => spec_ClassOf.mono v k) h0 k hk
def chunksFor (v : Int) : Int := if v ≤ 16 then 0 else if v > 256 then 0 else (v + 15) / 16
theorem impl_chunks {v : Int} (h : -9223372036854775808 ≤ v ∧ v ≤ 9223372036854775807) : impl_ChunksFor.f v = some (chunksFor v) := by
  unfold impl_ChunksFor.f chunksFor
  rw [within_ctl, Option.bind_some]
  by_cases c1 : v ≤ 16
  · rw [if_pos c1, decide_eq_false (by omega)]; rfl
  · by_cases c2 : v > 256
    · rw [if_neg c1, if_pos c2, decide_eq_false (by omega)]; rfl
    · rw [if_neg c1, if_neg c2, decide_eq_true (by omega), if_pos rfl, w64 (n := v + 16) (by omega) (by omega), w64 (n := v + 16 - 1) (by omega) (by omega), Int.tdiv_eq_ediv_of_nonneg (by omega), w64 (by omega) (by omega)]
      rw [show v + 16 - 1 = v + 15 by omega]
theorem spec_chunks {v : Int} (h : -9223372036854775808 ≤ v ∧ v ≤ 9223372036854775807) : spec_ChunksFor.f v = some (chunksFor v) := by
  unfold spec_ChunksFor.f chunksFor
  by_cases c1 : v ≤ 16
  · rw [if_pos c1, if_pos c1]
  · by_cases c2 : v > 256
    · rw [if_neg c1, if_pos c2, if_neg c1, if_pos c2]
    · rw [if_neg c1, if_neg c2, if_neg c1, if_neg c2, w64 (n := v + 16) (by omega) (by omega), w64 (n := v + 16 - 1) (by omega) (by omega), Int.tdiv_eq_ediv_of_nonneg (by omega), w64 (by omega) (by omega)]
      rw [show v + 16 - 1 = v + 15 by omega]
theorem chunksFor_range (v : Int) : 0 ≤ chunksFor v ∧ chunksFor v ≤ 16 := by
  unfold chunksFor
  (repeat' split) <;> omega

/-- The three ways of a warp that is not idle: it gives back, takes a small block, takes a large one. -/
def giving (v ph pr he seen ch : Int) (g : Bool) : Bool :=
  if ph = 0 then decide (pr = 0 ∧ he = 0 ∧ seen = 0) else if ph = 1 then decide (pr = 0 ∧ he = 0 ∧ v < 16 * ch) && g else if ph = 2 then decide (1 ≤ he ∧ pr + he ≤ ch ∧ seen = 0) else false
def small (ph pr he seen ch room : Int) : Bool :=
  if he = 0 ∧ pr ≤ ch then (if ph = 0 then decide (seen = 0) else if ph = 1 then decide (pr < ch ∧ 0 < room) else false) else false
def large (r ph pr he seen ch : Int) : Bool :=
  if (0 ≤ ph ∧ ph ≤ 3) ∧ pr ≤ ch ∧ (0 ≤ he ∧ he ≤ r) ∧ seen = 0 then (if (0 < he ∨ ph = 1) ∧ ch < pr + r then false else if ph = 2 then decide (0 < he) else if ph = 3 then decide (he = r) else decide (he < r)) else false
def bodyOk (c v ph pr he seen ch : Int) : Bool :=
  if c = 2 then giving v ph pr he seen ch (gives seen (v % 16)) else if v ≤ 16 then small ph pr he seen ch (room seen (cls v)) else large (chunksFor v) ph pr he seen ch
def W (n : Int) : Prop := -9223372036854775808 ≤ n ∧ n ≤ 9223372036854775807
theorem and3 (a b c : Int) : (if a = 0 then (if b = 0 then some (c == 0) else some false) else some false) = some (decide (a = 0 ∧ b = 0 ∧ c = 0)) := by
  by_cases h1 : a = 0 <;> by_cases h2 : b = 0 <;> simp [h1, h2, beq_dec]

theorem impl_giving (c : Int) (vals got : List Int) (t v ph pr he seen ch : Int) (hlead : impl_Warp_lead.f c vals got t ph pr he seen = some v) (hv : 0 ≤ v ∧ v ≤ 4095) (hch : 0 ≤ ch ∧ ch ≤ 16) (hpr : 0 ≤ pr ∧ pr ≤ 9223372036854775807) (hhe : W he)
    (hs : 0 ≤ seen ∧ seen ≤ 4294967295) (k : Nat) (hk : 1 < k) : impl_isGiving.f k c vals got t ph pr he seen ch = some (giving v ph pr he seen ch (gives seen (v % 16))) := by
  have hg := impl_gives seen (v % 16) hs.1 hs.2 k hk
  have hw : wrap64 (16 * ch) = 16 * ch := w64 (by omega) (by omega)
  have hw2 : 1 ≤ he ∧ he ≤ ch → wrap64 (ch - he) = ch - he := fun h => w64 (by omega) (by omega)
  have ht : Int.tmod v 16 = v % 16 := Int.tmod_eq_emod_of_nonneg hv.1
  unfold W at hhe
  unfold impl_isGiving.f giving
  by_cases c0 : ph = 0
  · rw [if_pos c0, if_pos c0, and3]
  · rw [if_neg c0, if_neg c0]
    by_cases c1 : ph = 1
    · rw [if_pos c1, if_pos c1]
      by_cases h1 : pr = 0
      · by_cases h2 : he = 0
        · rw [if_pos h1, if_pos h2, hlead, Option.bind_some, hw]
          by_cases h3 : v < 16 * ch
          · rw [if_pos h3, Option.bind_some, ht, hg, Option.bind_some, decide_eq_true ⟨h1, h2, h3⟩, Bool.true_and]
          · rw [if_neg h3, decide_eq_false (fun h => h3 h.2.2), Bool.false_and]
        · rw [if_pos h1, if_neg h2, decide_eq_false (fun h => h2 h.2.1), Bool.false_and]
      · rw [if_neg h1, decide_eq_false (fun h => h1 h.1), Bool.false_and]
    · rw [if_neg c1, if_neg c1]
      by_cases c2 : ph = 2
      · rw [if_pos c2, if_pos c2, within_ctl, Option.bind_some]
        by_cases c3 : 1 ≤ he ∧ he ≤ ch
        · rw [decide_eq_true c3, if_pos rfl, hw2 c3]
          by_cases c4 : pr ≤ ch - he
          · rw [if_pos c4, beq_dec, show decide (seen = 0) = decide (1 ≤ he ∧ pr + he ≤ ch ∧ seen = 0) from decide_eq_decide.2 (by omega)]
          · rw [if_neg c4, decide_eq_false (by omega)]
        · rw [decide_eq_false c3, if_neg Bool.false_ne_true, decide_eq_false (by omega)]
      · rw [if_neg c2, if_neg c2]
theorem impl_small (c : Int) (vals got : List Int) (t v ph pr he seen ch : Int) (hlead : impl_Warp_lead.f c vals got t ph pr he seen = some v) (hv : 1 ≤ v ∧ v ≤ 16) (hs : 0 ≤ seen ∧ seen ≤ 4294967295) (k : Nat) (hk : 30 < k) :
    impl_isTakingSmall.f k c vals got t ph pr he seen ch = some (small ph pr he seen ch (room seen (cls v))) := by
  obtain ⟨k, rfl⟩ : ∃ m, k = m + 1 := ⟨k - 1, by omega⟩
  have hc := impl_cls hv k (by omega)
  have hr := impl_room seen (cls v) hs.1 hs.2 k (by omega)
  unfold impl_isTakingSmall.f small
  by_cases h1 : he = 0
  · by_cases h2 : pr ≤ ch
    · rw [if_pos h1, decide_eq_false (show ¬ pr > ch by omega), if_pos (show he = 0 ∧ pr ≤ ch from ⟨h1, h2⟩), impl_isTakingSmall.j0, if_neg Bool.false_ne_true]
      by_cases h3 : ph = 0
      · rw [if_pos h3, if_pos h3, beq_dec]
      · rw [if_neg h3, if_neg h3]
        by_cases h4 : ph = 1
        · rw [if_pos h4, if_pos h4]
          by_cases h5 : pr < ch
          · rw [if_pos h5, hlead, Option.bind_some, hc, Option.bind_some, hr, Option.bind_some, show decide (room seen (cls v) > 0) = decide (pr < ch ∧ 0 < room seen (cls v)) from decide_eq_decide.2 (by omega)]
          · rw [if_neg h5, decide_eq_false (fun h => h5 h.1)]
        · rw [if_neg h4, if_neg h4]
    · rw [if_pos h1, decide_eq_true (show pr > ch by omega), if_neg (show ¬ (he = 0 ∧ pr ≤ ch) from fun h => h2 h.2), impl_isTakingSmall.j0, if_pos rfl]
  · rw [if_neg h1, if_neg (show ¬ (he = 0 ∧ pr ≤ ch) from fun h => h1 h.1), impl_isTakingSmall.j0, if_pos rfl]
theorem large_j1 (k : Nat) (r : Int) (b : Bool) (c : Int) (vals got : List Int) (t ph pr he seen : Int) :
    impl_isTakingLarge.j1 (k + 1) r b c vals got t ph pr he seen = some (if b = true then false else if ph = 2 then decide (0 < he) else if ph = 3 then decide (he = r) else decide (he < r)) := by
  rw [impl_isTakingLarge.j1]
  cases b
  · rw [if_neg Bool.false_ne_true, if_neg Bool.false_ne_true]
    by_cases z2 : ph = 2
    · rw [if_pos z2, if_pos z2]
    · by_cases z3 : ph = 3
      · rw [if_neg z2, if_neg z2, if_pos z3, if_pos z3]; rfl
      · rw [if_neg z2, if_neg z2, if_neg z3, if_neg z3]
  · rw [if_pos rfl, if_pos rfl]
theorem impl_large (c : Int) (vals got : List Int) (t v ph pr he seen ch : Int) (hlead : impl_Warp_lead.f c vals got t ph pr he seen = some v) (hv : W v) (hch : 0 ≤ ch ∧ ch ≤ 16) (hpr : 0 ≤ pr ∧ pr ≤ 9223372036854775807) (hhe : W he)
    (k : Nat) (hk : 30 < k) : impl_isTakingLarge.f k c vals got t ph pr he seen ch = some (large (chunksFor v) ph pr he seen ch) := by
  obtain ⟨k, rfl⟩ : ∃ m, k = m + 2 := ⟨k - 2, by omega⟩
  have hr := chunksFor_range v
  have hch' := impl_chunks hv
  unfold impl_isTakingLarge.f large
  rw [hlead, Option.bind_some, hch', Option.bind_some, within_ctl, Option.bind_some]
  clear hch'
  generalize chunksFor v = r at hr ⊢
  by_cases c0 : 0 ≤ ph ∧ ph ≤ 3
  · rw [decide_eq_true c0, if_pos rfl]
    by_cases c1 : pr > ch
    · rw [if_pos c1, if_neg (show ¬ ((0 ≤ ph ∧ ph ≤ 3) ∧ pr ≤ ch ∧ (0 ≤ he ∧ he ≤ r) ∧ seen = 0) from fun h => by omega), impl_isTakingLarge.j0, if_pos rfl]
    · rw [if_neg c1, within_ctl, Option.bind_some]
      by_cases c2 : 0 ≤ he ∧ he ≤ r
      · rw [decide_eq_true c2, if_pos rfl, impl_isTakingLarge.j0]
        by_cases c3 : seen = 0
        · have hw : wrap64 (pr + r) = pr + r := w64 (by omega) (by omega)
          rw [show (seen != 0) = false by simp [c3], if_neg Bool.false_ne_true, if_pos (show (0 ≤ ph ∧ ph ≤ 3) ∧ pr ≤ ch ∧ (0 ≤ he ∧ he ≤ r) ∧ seen = 0 from ⟨c0, by omega, c2, c3⟩), hw]
          by_cases c4 : he > 0
          · rw [if_pos c4, large_j1]
            by_cases c5 : ch < pr + r
            · rw [decide_eq_true (show pr + r > ch from c5), if_pos rfl, if_pos (show (0 < he ∨ ph = 1) ∧ ch < pr + r from ⟨Or.inl c4, c5⟩)]
            · rw [decide_eq_false (show ¬ pr + r > ch from c5), if_neg Bool.false_ne_true, if_neg (show ¬ ((0 < he ∨ ph = 1) ∧ ch < pr + r) from fun h => c5 h.2)]
          · rw [if_neg c4]
            by_cases c6 : ph = 1
            · rw [if_pos c6, large_j1]
              by_cases c5 : ch < pr + r
              · rw [decide_eq_true (show pr + r > ch from c5), if_pos rfl, if_pos (show (0 < he ∨ ph = 1) ∧ ch < pr + r from ⟨Or.inr c6, c5⟩)]
              · rw [decide_eq_false (show ¬ pr + r > ch from c5), if_neg Bool.false_ne_true, if_neg (show ¬ ((0 < he ∨ ph = 1) ∧ ch < pr + r) from fun h => c5 h.2)]
            · rw [if_neg c6, large_j1, if_neg Bool.false_ne_true, if_neg (show ¬ ((0 < he ∨ ph = 1) ∧ ch < pr + r) from fun h => by omega)]
        · rw [show (seen != 0) = true by simp [c3], if_pos rfl, if_neg (show ¬ ((0 ≤ ph ∧ ph ≤ 3) ∧ pr ≤ ch ∧ (0 ≤ he ∧ he ≤ r) ∧ seen = 0) from fun h => c3 h.2.2.2)]
      · rw [decide_eq_false c2, if_neg Bool.false_ne_true, if_neg (show ¬ ((0 ≤ ph ∧ ph ≤ 3) ∧ pr ≤ ch ∧ (0 ≤ he ∧ he ≤ r) ∧ seen = 0) from fun h => c2 h.2.2.1), impl_isTakingLarge.j0, if_pos rfl]
  · rw [decide_eq_false c0, if_neg Bool.false_ne_true, if_neg (show ¬ ((0 ≤ ph ∧ ph ≤ 3) ∧ pr ≤ ch ∧ (0 ≤ he ∧ he ≤ r) ∧ seen = 0) from fun h => c0 h.1), impl_isTakingLarge.j0, if_pos rfl]

/-- The warp's validity. -/
def allAsk (c : Int) (vals : List Int) (t : Int) : Prop := ∀ b ∈ bitList t.toNat, b ∈ ons 0 (askBits c vals)
instance (c : Int) (vals : List Int) (t : Int) : Decidable (allAsk c vals t) := by unfold allAsk; infer_instance
def leadOf (vals : List Int) (t : Int) : Int := rd vals (Lib.ctz 32 t.toNat : Int)
def warpOk (c : Int) (vals got : List Int) (t ph pr he seen ch : Int) : Bool :=
  if (0 ≤ ch ∧ ch ≤ 16) ∧ vals.length = 8 ∧ got.length = 8 ∧ t < 256 then
    if c = 0 then decide (t = 0 ∧ ph = 0 ∧ pr = 0 ∧ he = 0 ∧ seen = 0)
    else if reqOk c vals = true ∧ t ≠ 0 ∧ allAsk c vals t ∧ 0 ≤ pr then bodyOk c (leadOf vals t) ph pr he seen ch else false
  else false
/-- What the lead of a valid request is. -/
theorem lead_facts {c : Int} {vals : List Int} {t : Int} (hl : vals.length = 8) (hq : reqOk c vals = true) (h0 : t ≠ 0) (ht : 0 ≤ t ∧ t ≤ 4294967295) (ha : allAsk c vals t) :
    ∃ j : Nat, Lib.ctz 32 t.toNat = j ∧ j < 8 ∧ (c = 1 ∧ 1 ≤ leadOf vals t ∧ leadOf vals t ≤ 256 ∨ c = 2 ∧ 0 ≤ leadOf vals t ∧ leadOf vals t ≤ 4095) := by
  obtain ⟨l, hb⟩ := bitList_first (x := t.toNat) (by omega) (by omega)
  have h1 := ha _ (by rw [hb]; exact List.mem_cons_self)
  obtain ⟨j, hj, hg, he⟩ := (mem_ons _ 0 _).1 h1
  rw [askBits_length, hl] at hj
  rw [askBits_get c vals j (by omega)] at hg
  have hc : Lib.ctz 32 t.toNat = j := by omega
  refine ⟨j, hc, hj, ?_⟩
  have hlead : leadOf vals t = vals[j] := by unfold leadOf; rw [hc, rdG vals j (by omega)]
  have hv : vals.getD j 0 = vals[j] := by rw [← rd_nat, rdG vals j (by omega)]
  have hask : askB c vals[j] = true := by
    rw [hv] at hg
    by_cases z : askB c vals[j] = true
    · exact z
    · rw [if_neg z] at hg; omega
  have hm : vals[j] ∈ vals := List.getElem_mem _
  rw [hlead]
  unfold reqOk at hq
  unfold askB at hask
  simp only [Bool.and_eq_true, Bool.or_eq_true, decide_eq_true_eq, List.all_eq_true] at hq hask
  obtain ⟨_, ⟨q1, q2⟩ | ⟨q1, q2⟩⟩ := hq
  · have := q2 _ hm
    left
    omega
  · have := q2 _ hm
    right
    omega
theorem impl_lead {c : Int} {vals got : List Int} {t ph pr he seen : Int} (hl : vals.length = 8) (hq : reqOk c vals = true) (h0 : t ≠ 0) (ht : 0 ≤ t ∧ t ≤ 4294967295) (ha : allAsk c vals t) :
    impl_Warp_lead.f c vals got t ph pr he seen = some (leadOf vals t) := by
  obtain ⟨j, hc, hj, _⟩ := lead_facts hl hq h0 ht ha
  have h1 := impl_lowest (x := t.toNat) (by omega) (by omega)
  rw [show ((t.toNat : Nat) : Int) = t by omega] at h1
  unfold impl_Warp_lead.f leadOf
  rw [h1, Option.bind_some, if_pos (by omega), if_pos (by omega)]
theorem asks_iff (c : Int) (vals : List Int) (hl : vals.length = 8) (t : Int) (ht : 0 ≤ t ∧ t ≤ 4294967295) : Go.bits .andNot .u32 t ((mkN (askBits c vals) : Nat) : Int) = 0 ↔ allAsk c vals t := by
  have := asks_all c vals hl t.toNat (by omega)
  rw [show ((t.toNat : Nat) : Int) = t by omega] at this
  exact this
theorem impl_warp (c : Int) (vals got : List Int) (t ph pr he seen ch : Int) (hpr : W pr) (hhe : W he) (hvs : ∀ x ∈ vals, W x) (ht : 0 ≤ t ∧ t ≤ 4294967295) (hs : 0 ≤ seen ∧ seen ≤ 4294967295) (k : Nat) (hk : 40 < k) :
    impl_isWarp.f k c vals got t ph pr he seen ch = some (warpOk c vals got t ph pr he seen ch) := by
  obtain ⟨k, rfl⟩ : ∃ m, k = m + 2 := ⟨k - 2, by omega⟩
  unfold impl_isWarp.f warpOk impl_isMask.f
  have kill : ∀ q : Prop, [Decidable q] → ¬ q → impl_isWarp.j0 (k + 2) ch true c vals got t ph pr he seen = some (if q then (if c = 0 then decide (t = 0 ∧ ph = 0 ∧ pr = 0 ∧ he = 0 ∧ seen = 0) else if reqOk c vals = true ∧ t ≠ 0 ∧ allAsk c vals t ∧ 0 ≤ pr then bodyOk c (leadOf vals t) ph pr he seen ch else false) else false) := by
    intro q _ hq
    rw [if_neg hq, impl_isWarp.j0, if_pos rfl]
  rw [within_ctl, Option.bind_some]
  by_cases c0 : 0 ≤ ch ∧ ch ≤ 16
  · rw [decide_eq_true c0, if_pos rfl]
    by_cases c1 : vals.length = 8
    · rw [if_pos (show (vals.length : Int) = 8 by omega)]
      by_cases c2 : got.length = 8
      · rw [if_pos (show (got.length : Int) = 8 by omega), Option.bind_some]
        by_cases c3 : t < 256
        · rw [decide_eq_true c3, if_pos (show (0 ≤ ch ∧ ch ≤ 16) ∧ vals.length = 8 ∧ got.length = 8 ∧ t < 256 from ⟨c0, c1, c2, c3⟩), Bool.not_true, impl_isWarp.j0, if_neg Bool.false_ne_true]
          by_cases d0 : c = 0
          · rw [if_pos d0, if_pos d0, and3]
            by_cases e1 : t = 0
            · rw [if_pos e1]
              by_cases e2 : ph = 0
              · rw [if_pos e2]
                congr 1
                rw [decide_eq_decide]
                omega
              · rw [if_neg e2, decide_eq_false (fun h => e2 h.2.1)]
            · rw [if_neg e1, decide_eq_false (fun h => e1 h.1)]
          · rw [if_neg d0, if_neg d0, impl_req, Option.bind_some]
            have fail : ∀ q : Prop, [Decidable q] → ¬ q → impl_isWarp.j1 (k + 1) ch true c vals got t ph pr he seen = some (if q then bodyOk c (leadOf vals t) ph pr he seen ch else false) := by
              intro q _ hq
              rw [if_neg hq, impl_isWarp.j1, if_pos rfl]
            by_cases d1 : reqOk c vals = true
            · rw [if_pos d1]
              by_cases d2 : t = 0
              · rw [if_pos d2]
                exact fail _ (fun h => h.2.1 d2)
              · rw [if_neg d2, impl_asks_eq c vals c1 _ (by omega), Option.bind_some]
                by_cases d3 : allAsk c vals t
                · rw [if_pos ((asks_iff c vals c1 t ht).2 d3)]
                  by_cases d4 : pr < 0
                  · rw [decide_eq_true d4]
                    exact fail _ (fun h => by omega)
                  · obtain ⟨j, hj1, hj2, hv⟩ := lead_facts c1 d1 d2 ht d3
                    have hlead := impl_lead (got := got) (ph := ph) (pr := pr) (he := he) (seen := seen) c1 d1 d2 ht d3
                    rw [decide_eq_false d4, impl_isWarp.j1, if_neg Bool.false_ne_true, if_pos (show reqOk c vals = true ∧ t ≠ 0 ∧ allAsk c vals t ∧ 0 ≤ pr from ⟨d1, d2, d3, by omega⟩)]
                    unfold bodyOk
                    unfold W at hpr hhe
                    by_cases d5 : c = 2
                    · rw [if_pos d5, if_pos d5, impl_giving c vals got t _ ph pr he seen ch hlead (by omega) c0 (by omega) hhe hs k (by omega), Option.bind_some]
                    · rw [if_neg d5, if_neg d5]
                      unfold impl_Warp_isSmall.f
                      rw [if_pos (show c = 1 by omega), hlead, Option.bind_some, Option.bind_some]
                      by_cases d6 : leadOf vals t ≤ 16
                      · rw [decide_eq_true d6, if_pos rfl, if_pos d6, impl_small c vals got t _ ph pr he seen ch hlead (by omega) hs k (by omega), Option.bind_some]
                      · rw [decide_eq_false d6, if_neg Bool.false_ne_true, if_neg d6, impl_large c vals got t _ ph pr he seen ch hlead (by unfold W; omega) c0 (by omega) hhe k (by omega), Option.bind_some]
                · rw [if_neg (fun h => d3 ((asks_iff c vals c1 t ht).1 h))]
                  exact fail _ (fun h => d3 h.2.2.1)
            · rw [if_neg d1]
              exact fail _ (fun h => d1 h.1)
        · rw [decide_eq_false c3, Bool.not_false]
          exact kill _ (fun h => c3 h.2.2.2)
      · rw [if_neg (show ¬ (got.length : Int) = 8 by omega)]
        exact kill _ (fun h => c2 h.2.2.1)
    · rw [if_neg (show ¬ (vals.length : Int) = 8 by omega)]
      exact kill _ (fun h => c1 h.2.1)
  · rw [decide_eq_false c0, if_neg Bool.false_ne_true]
    exact kill _ (fun h => c0 h.1)
end Go.Proofs.YtfhcnnkeokjfpaaDoor.Base
set_option linter.unusedVariables false
set_option linter.unusedSimpArgs false
namespace Go.Proofs.YtfhcnnkeokjfpaaDoor.Base
open Go.RowKit Go.Proofs.YtfhcnnkeokjfpaaDoor.PB1 Go.Proofs.YtfhcnnkeokjfpaaDoorW.PrintWords Go.Proofs.YtfhcnnkeokjfpaaDoorW.PrintLast Go.Proofs.YtfhcnnkeokjfpaaDoorW.PrintMore

theorem spec_mask (t : Int) (ht : 0 ≤ t ∧ t ≤ 4294967295) (k : Nat) (hk : 40 < k) : spec_l03Mask.f k t = some (decide (t < 256)) := by
  unfold spec_l03Mask.f
  obtain ⟨x, rfl⟩ := Int.eq_ofNat_of_zero_le ht.1
  by_cases h0 : x = 0
  · subst h0
    have h1 : spec_Highest.f k ((0 : Nat) : Int) = some (-1) := by
      unfold spec_Highest.f
      rw [spec_bitList 0 (by omega) k hk, Option.bind_some, bitList_zero, if_pos (by simp)]
    rw [h1, Option.bind_some]
    simp
  · rw [spec_highest x h0 (by omega) k hk, Option.bind_some]
    have h8 : x.log2 < 8 ↔ x < 256 := Nat.log2_lt h0 (k := 8)
    generalize x.log2 = y at h8 ⊢
    rw [show decide ((y : Int) < 8) = decide ((x : Int) < 256) from decide_eq_decide.2 (by omega)]
theorem large_jo (k : Nat) (x1 ph : Int) (b : Bool) (c : Int) (vals got : List Int) (t p1 pr he seen : Int) :
    spec_l07LargeOk.j1 (k + 1) x1 ph b c vals got t p1 pr he seen = some (if b = true then decide (he < x1) else if ph = 2 then decide (0 < he) else if ph = 3 then decide (he = x1) else false) := by
  rw [spec_l07LargeOk.j1]
  cases b
  · rw [if_neg Bool.false_ne_true, if_neg Bool.false_ne_true]
    by_cases z2 : ph = 2
    · rw [if_pos z2, if_pos z2]
    · by_cases z3 : ph = 3
      · rw [if_neg z2, if_neg z2, if_pos z3, if_pos z3]; rfl
      · rw [if_neg z2, if_neg z2, if_neg z3, if_neg z3]
  · rw [if_pos rfl, if_pos rfl]
theorem spec_large (c : Int) (vals got : List Int) (t ph pr he seen r ch : Int) (hs : seen = 0) (hr : 0 ≤ r ∧ r ≤ 16) (hch : 0 ≤ ch ∧ ch ≤ 16) (hph : 0 ≤ ph) (hpr : 0 ≤ pr ∧ pr ≤ ch) (hhe : 0 ≤ he) (k : Nat) (hk : 3 < k) :
    spec_l07LargeOk.f k c vals got t ph pr he seen r ch = some (large r ph pr he seen ch) := by
  obtain ⟨k, rfl⟩ : ∃ m, k = m + 2 := ⟨k - 2, by omega⟩
  have hw : wrap64 (pr + r) = pr + r := w64 (by omega) (by omega)
  have dead : spec_l07LargeOk.j0 (k + 2) r true c vals got t ph pr he seen = some false := by rw [spec_l07LargeOk.j0, if_pos rfl]
  have go : spec_l07LargeOk.j0 (k + 2) r false c vals got t ph pr he seen = some (if ph = 0 ∨ ph = 1 then decide (he < r) else if ph = 2 then decide (0 < he) else if ph = 3 then decide (he = r) else false) := by
    rw [spec_l07LargeOk.j0, if_neg Bool.false_ne_true]
    by_cases z0 : ph = 0
    · rw [if_pos z0, large_jo, show (ph == 0) = true by simp [z0], if_pos rfl, if_pos (show ph = 0 ∨ ph = 1 from Or.inl z0)]
    · rw [if_neg z0, large_jo]
      by_cases z1 : ph = 1
      · rw [show (ph == 1) = true by simp [z1], if_pos rfl, if_pos (show ph = 0 ∨ ph = 1 from Or.inr z1)]
      · rw [show (ph == 1) = false by simp [z1], if_neg Bool.false_ne_true, if_neg (show ¬ (ph = 0 ∨ ph = 1) from fun h => h.elim z0 z1)]
  unfold spec_l07LargeOk.f large
  by_cases c1 : he > r
  · rw [if_pos c1, dead, if_neg (show ¬ ((0 ≤ ph ∧ ph ≤ 3) ∧ pr ≤ ch ∧ (0 ≤ he ∧ he ≤ r) ∧ seen = 0) from fun h => by omega)]
  · rw [if_neg c1, hw]
    by_cases cp : ph ≤ 3
    · rw [if_pos (show (0 ≤ ph ∧ ph ≤ 3) ∧ pr ≤ ch ∧ (0 ≤ he ∧ he ≤ r) ∧ seen = 0 from ⟨⟨hph, cp⟩, hpr.2, ⟨hhe, by omega⟩, hs⟩)]
      by_cases c2 : (0 < he ∨ ph = 1) ∧ ch < pr + r
      · rw [if_pos c2]
        by_cases c3 : he > 0
        · rw [if_pos c3, decide_eq_true (show pr + r > ch from c2.2), dead]
        · rw [if_neg c3, if_pos (show ph = 1 by omega), decide_eq_true (show pr + r > ch from c2.2), dead]
      · rw [if_neg c2]
        have e : (if ph = 0 ∨ ph = 1 then decide (he < r) else if ph = 2 then decide (0 < he) else if ph = 3 then decide (he = r) else false) = (if ph = 2 then decide (0 < he) else if ph = 3 then decide (he = r) else decide (he < r)) := by
          by_cases z2 : ph = 2
          · rw [if_neg (by omega), if_pos z2, if_pos z2]
          · by_cases z3 : ph = 3
            · rw [if_neg (by omega), if_neg z2, if_pos z3, if_neg z2, if_pos z3]
            · rw [if_pos (by omega), if_neg z2, if_neg z3]
        by_cases c3 : he > 0
        · rw [if_pos c3, decide_eq_false (show ¬ pr + r > ch from fun h => c2 ⟨Or.inl c3, h⟩), go, e]
        · rw [if_neg c3]
          by_cases c4 : ph = 1
          · rw [if_pos c4, decide_eq_false (show ¬ pr + r > ch from fun h => c2 ⟨Or.inr c4, h⟩), go, e]
          · rw [if_neg c4, go, e]
    · rw [if_neg (show ¬ ((0 ≤ ph ∧ ph ≤ 3) ∧ pr ≤ ch ∧ (0 ≤ he ∧ he ≤ r) ∧ seen = 0) from fun h => by omega)]
      have c4 : ¬ ph = 1 := by omega
      rw [if_neg c4, go, if_neg (show ¬ (ph = 0 ∨ ph = 1) by omega), if_neg (show ¬ ph = 2 by omega), if_neg (show ¬ ph = 3 by omega)]
      by_cases c3 : he > 0
      · rw [if_pos c3]
        by_cases c5 : ch < pr + r
        · rw [decide_eq_true (show pr + r > ch from c5), dead]
        · rw [decide_eq_false (show ¬ pr + r > ch from c5), go, if_neg (show ¬ (ph = 0 ∨ ph = 1) by omega), if_neg (show ¬ ph = 2 by omega), if_neg (show ¬ ph = 3 by omega)]
      · rw [if_neg c3]

/-- The reference's body, for a lead v. -/
theorem spec_body (c : Int) (vals got : List Int) (t v ph pr he seen ch : Int) (hc : c = 1 ∧ 1 ≤ v ∧ v ≤ 256 ∨ c = 2 ∧ 0 ≤ v ∧ v ≤ 4095) (hch : 0 ≤ ch ∧ ch ≤ 16) (hph : 0 ≤ ph) (hpr : 0 ≤ pr ∧ pr ≤ ch) (hhe : 0 ≤ he ∧ he ≤ 16) (hs : 0 ≤ seen ∧ seen ≤ 4294967295)
    (b : Bool) (hb : b = decide (c = 1 ∧ v > 16)) (k : Nat) (hk : 200 < k) : spec_WarpOk.j4 k ch v b c vals got t ph pr he seen = some (bodyOk c v ph pr he seen ch) := by
  obtain ⟨k, rfl⟩ : ∃ m, k = m + 2 := ⟨k - 2, by omega⟩
  have dead : ∀ q : Bool, q = false → spec_WarpOk.j5 (k + 1) ch v b true c vals got t ph pr he seen = some q := by
    rintro q rfl
    rw [spec_WarpOk.j5, if_pos rfl]
  have hw : wrap64 (16 * ch) = 16 * ch := w64 (by omega) (by omega)
  have hw2 : wrap64 (pr + he) = pr + he := w64 (by omega) (by omega)
  unfold bodyOk
  rw [spec_WarpOk.j4]
  by_cases c2 : c = 2
  · subst c2
    have hv : 0 ≤ v := by omega
    have ht : Int.tmod v 16 = v % 16 := Int.tmod_eq_emod_of_nonneg hv
    have hb0 : b = false := by rw [hb, decide_eq_false (by omega)]
    subst hb0
    have go : spec_WarpOk.j5 (k + 1) ch v false false 2 vals got t ph pr he seen = some (if ph = 0 then decide (pr = 0 ∧ he = 0) else if ph = 1 then decide (pr = 0 ∧ he = 0 ∧ v < 16 * ch) && gives seen (v % 16) else if ph = 2 then decide (1 ≤ he ∧ pr + he ≤ ch) else false) := by
      rw [spec_WarpOk.j5, if_neg Bool.false_ne_true, if_neg Bool.false_ne_true, if_neg (show ¬ (2 : Int) = 1 by omega)]
      by_cases z0 : ph = 0
      · rw [if_pos z0, if_pos z0]
        by_cases h1 : pr = 0
        · rw [if_pos h1, beq_dec, show decide (he = 0) = decide (pr = 0 ∧ he = 0) from decide_eq_decide.2 (by omega)]
        · rw [if_neg h1, decide_eq_false (fun h => h1 h.1)]
      · rw [if_neg z0, if_neg z0]
        by_cases z1 : ph = 1
        · rw [if_pos z1, if_pos z1]
          by_cases h1 : pr = 0
          · by_cases h2 : he = 0
            · rw [if_pos h1, if_pos h2, hw]
              by_cases h3 : v < 16 * ch
              · rw [if_pos h3, ht, spec_gives seen _ hs.1 hs.2 k (by omega), Option.bind_some, decide_eq_true ⟨h1, h2, h3⟩, Bool.true_and]
              · rw [if_neg h3, decide_eq_false (fun h => h3 h.2.2), Bool.false_and]
            · rw [if_pos h1, if_neg h2, decide_eq_false (fun h => h2 h.2.1), Bool.false_and]
          · rw [if_neg h1, decide_eq_false (fun h => h1 h.1), Bool.false_and]
        · rw [if_neg z1, if_neg z1]
          by_cases z2 : ph = 2
          · rw [if_pos z2, if_pos z2]
            by_cases h1 : he > 0
            · rw [if_pos h1, hw2, show decide (pr + he ≤ ch) = decide (1 ≤ he ∧ pr + he ≤ ch) from decide_eq_decide.2 (by omega)]
            · rw [if_neg h1, decide_eq_false (by omega)]
          · rw [if_neg z2, if_neg z2]
    rw [if_pos rfl]
    unfold giving
    by_cases z1 : ph = 1
    · rw [if_pos z1, if_neg Bool.false_ne_true, go, if_neg (show ¬ ph = 0 by omega), if_pos z1, if_neg (show ¬ ph = 0 by omega), if_pos z1]
    · rw [if_neg z1]
      by_cases s0 : seen = 0
      · rw [show (seen != 0) = false by simp [s0], go]
        by_cases z0 : ph = 0
        · rw [if_pos z0, if_pos z0, show decide (pr = 0 ∧ he = 0) = decide (pr = 0 ∧ he = 0 ∧ seen = 0) from decide_eq_decide.2 (by omega)]
        · rw [if_neg z0, if_neg z1, if_neg z0, if_neg z1]
          by_cases z2 : ph = 2
          · rw [if_pos z2, if_pos z2, show decide (1 ≤ he ∧ pr + he ≤ ch) = decide (1 ≤ he ∧ pr + he ≤ ch ∧ seen = 0) from decide_eq_decide.2 (by omega)]
          · rw [if_neg z2, if_neg z2]
      · rw [show (seen != 0) = true by simp [s0]]
        apply dead
        by_cases z0 : ph = 0
        · rw [if_pos z0, decide_eq_false (fun h => s0 h.2.2)]
        · rw [if_neg z0, if_neg z1]
          by_cases z2 : ph = 2
          · rw [if_pos z2, decide_eq_false (fun h => s0 h.2.2)]
          · rw [if_neg z2]
  · have c1 : c = 1 := by omega
    subst c1
    rw [if_neg c2]
    by_cases hv16 : v ≤ 16
    · have hb0 : b = false := by rw [hb, decide_eq_false (by omega)]
      subst hb0
      have go : spec_WarpOk.j5 (k + 1) ch v false false 1 vals got t ph pr he seen = some (if he = 0 then (if ph = 0 then true else if ph = 1 then decide (pr < ch ∧ 0 < room seen (cls v)) else false) else false) := by
        rw [spec_WarpOk.j5, if_neg Bool.false_ne_true, if_neg Bool.false_ne_true, if_pos rfl]
        by_cases h1 : he = 0
        · rw [if_pos h1, if_pos h1]
          by_cases z0 : ph = 0
          · rw [if_pos z0, if_pos z0]
          · rw [if_neg z0, if_neg z0]
            by_cases z1 : ph = 1
            · rw [if_pos z1, if_pos z1]
              by_cases h3 : pr < ch
              · rw [if_pos h3, spec_cls (by omega) k (by omega), Option.bind_some, spec_room seen (cls v) hs.1 hs.2 k (by omega), Option.bind_some, show decide (room seen (cls v) > 0) = decide (pr < ch ∧ 0 < room seen (cls v)) from decide_eq_decide.2 (by omega)]
              · rw [if_neg h3, decide_eq_false (fun h => h3 h.1)]
            · rw [if_neg z1, if_neg z1]
        · rw [if_neg h1, if_neg h1]
      rw [if_pos hv16]
      unfold small
      by_cases z1 : ph = 1
      · rw [if_pos z1, if_neg Bool.false_ne_true, go, if_neg (show ¬ ph = 0 by omega), if_pos z1]
        by_cases h1 : he = 0
        · rw [if_pos h1, if_pos (show he = 0 ∧ pr ≤ ch from ⟨h1, hpr.2⟩), if_neg (show ¬ ph = 0 by omega)]
        · rw [if_neg h1, if_neg (show ¬ (he = 0 ∧ pr ≤ ch) from fun h => h1 h.1)]
      · rw [if_neg z1]
        by_cases s0 : seen = 0
        · rw [show (seen != 0) = false by simp [s0], go, if_neg z1]
          by_cases h1 : he = 0
          · rw [if_pos h1, if_pos (show he = 0 ∧ pr ≤ ch from ⟨h1, hpr.2⟩), decide_eq_true s0]
          · rw [if_neg h1, if_neg (show ¬ (he = 0 ∧ pr ≤ ch) from fun h => h1 h.1)]
        · rw [show (seen != 0) = true by simp [s0]]
          apply dead
          rw [if_neg z1, decide_eq_false s0]
          by_cases h1 : he = 0 ∧ pr ≤ ch
          · rw [if_pos h1]
            by_cases z0 : ph = 0
            · rw [if_pos z0]
            · rw [if_neg z0]
          · rw [if_neg h1]
    · have hb1 : b = true := by rw [hb, decide_eq_true (by omega)]
      subst hb1
      rw [if_neg hv16, if_pos rfl]
      have hr := chunksFor_range v
      have e : ∀ q : Bool, (if ph = 1 then spec_WarpOk.j5 (k + 1) ch v true q 1 vals got t ph pr he seen else spec_WarpOk.j5 (k + 1) ch v true q 1 vals got t ph pr he seen) = spec_WarpOk.j5 (k + 1) ch v true q 1 vals got t ph pr he seen := fun q => by split <;> rfl
      rw [e]
      by_cases s0 : seen = 0
      · rw [show (seen != 0) = false by simp [s0], spec_WarpOk.j5, if_neg Bool.false_ne_true, if_pos rfl, spec_chunks (by omega), Option.bind_some, spec_large 1 vals got t ph pr he seen _ ch s0 hr hch hph hpr hhe.1 k (by omega), Option.bind_some]
      · rw [show (seen != 0) = true by simp [s0]]
        apply dead
        unfold large
        rw [if_neg (fun h => s0 h.2.2.2)]

/-- Its search: whether each lane of the mask asks. -/
theorem spec_in_loop (c : Int) (vals got A T : List Int) (t ph pr he seen ch : Int) (i : Nat) (hi : i < T.length) (hA : A.length ≤ 100) : ∀ (d j : Nat) (b : Bool) (k : Nat), j + d = A.length →
    spec_WarpOk.l1 (k + d + 1) ch A T (i : Int) b (j : Int) c vals got t ph pr he seen = if b = true ∨ T[i] ∈ A.drop j then spec_WarpOk.l0 k ch A T (wrap64 ((i : Int) + 1)) c vals got t ph pr he seen else some false
  | 0, j, b, k, hd => by
    rw [Nat.add_zero, spec_WarpOk.l1, if_neg (show ¬ ((j : Int) < (A.length : Int)) by omega), List.drop_eq_nil_of_le (by omega)]
    cases b <;> simp
  | d + 1, j, b, k, hd => by
    have hj : j < A.length := by omega
    have ih := fun b => spec_in_loop c vals got A T t ph pr he seen ch i hi hA d (j + 1) b k (by omega)
    have hw : wrap64 ((j : Int) + 1) = ((j + 1 : Nat) : Int) := by rw [w64 (by omega) (by omega)]; omega
    rw [show k + (d + 1) + 1 = (k + d + 1) + 1 by omega, spec_WarpOk.l1, if_pos (show (j : Int) < (A.length : Int) by omega), hw, ih, ih, List.drop_eq_getElem_cons hj]
    cases b
    · rw [if_neg Bool.false_ne_true, if_pos (show (0 : Int) ≤ (j : Int) by omega), if_pos (show (0 : Int) ≤ (i : Int) by omega), if_pos (show (i : Int) < (T.length : Int) by omega), rdG A j hj, rdG T i hi]
      by_cases e : A[j] = T[i]
      · rw [if_pos (Or.inl (by simp [e])), if_pos (Or.inr (by rw [← e]; exact List.mem_cons_self))]
      · have e' : ¬ T[i] = A[j] := fun h => e h.symm
        simp only [show (A[j] == T[i]) = false by simp [e], Bool.false_eq_true, false_or, List.mem_cons, e']
    · rw [if_pos rfl, if_pos (Or.inl rfl), if_pos (Or.inl rfl)]
theorem spec_all_loop (c : Int) (vals got A T : List Int) (t ph pr he seen ch : Int) (hT : T.length ≤ 100) (hA : A.length ≤ 100) (R : Option Bool) (hR : ∀ k, 300 < k → spec_WarpOk.l0 k ch A T (T.length : Int) c vals got t ph pr he seen = R) :
    ∀ (d i k : Nat), i + d = T.length → 300 + 200 * d < k → spec_WarpOk.l0 k ch A T (i : Int) c vals got t ph pr he seen = if ∀ x ∈ T.drop i, x ∈ A then R else some false
  | 0, i, k, hd, hk => by
    rw [show i = T.length by omega, hR k (by omega), List.drop_eq_nil_of_le (by omega), if_pos (by simp)]
  | d + 1, i, k, hd, hk => by
    have hi : i < T.length := by omega
    obtain ⟨m, rfl⟩ : ∃ m, k = m + A.length + 1 + 1 := ⟨k - A.length - 2, by omega⟩
    have ih := spec_all_loop c vals got A T t ph pr he seen ch hT hA R hR d (i + 1) m (by omega) (by omega)
    have hw : wrap64 ((i : Int) + 1) = ((i + 1 : Nat) : Int) := by rw [w64 (by omega) (by omega)]; omega
    have h1 := spec_in_loop c vals got A T t ph pr he seen ch i hi hA A.length 0 false m (by omega)
    rw [hw, ih] at h1
    rw [spec_WarpOk.l0, if_pos (show (i : Int) < (T.length : Int) by omega), show (0 : Int) = ((0 : Nat) : Int) by rfl, h1, List.drop_zero, List.drop_eq_getElem_cons hi]
    by_cases e : T[i] ∈ A
    · rw [if_pos (Or.inr e)]
      by_cases f : ∀ x ∈ T.drop (i + 1), x ∈ A
      · rw [if_pos f, if_pos (by intro x hx; rcases List.mem_cons.1 hx with rfl | hx; exact e; exact f x hx)]
      · rw [if_neg f, if_neg (fun h => f fun x hx => h x (List.mem_cons_of_mem _ hx))]
    · rw [if_neg (by rintro (h | h); exact Bool.false_ne_true h; exact e h), if_neg (fun h => e (h _ List.mem_cons_self))]
theorem spec_none_loop (c : Int) (vals got A T : List Int) (t ph pr he seen ch : Int) (hT : T.length ≤ 100) (hA : A.length ≤ 100) :
    ∀ (d i k : Nat), i + d = T.length → 300 + 200 * d < k → (¬ ∀ x ∈ T.drop i, x ∈ A) → spec_WarpOk.l0 k ch A T (i : Int) c vals got t ph pr he seen = some false
  | 0, i, k, hd, hk, hn => by
    rw [List.drop_eq_nil_of_le (by omega)] at hn
    exact absurd (by simp) hn
  | d + 1, i, k, hd, hk, hn => by
    have hi : i < T.length := by omega
    obtain ⟨m, rfl⟩ : ∃ m, k = m + A.length + 1 + 1 := ⟨k - A.length - 2, by omega⟩
    have ih := spec_none_loop c vals got A T t ph pr he seen ch hT hA d (i + 1) m (by omega) (by omega)
    have hw : wrap64 ((i : Int) + 1) = ((i + 1 : Nat) : Int) := by rw [w64 (by omega) (by omega)]; omega
    have h1 := spec_in_loop c vals got A T t ph pr he seen ch i hi hA A.length 0 false m (by omega)
    rw [hw] at h1
    rw [spec_WarpOk.l0, if_pos (show (i : Int) < (T.length : Int) by omega), show (0 : Int) = ((0 : Nat) : Int) by rfl, h1, List.drop_zero]
    rw [List.drop_eq_getElem_cons hi] at hn
    by_cases e : T[i] ∈ A
    · rw [if_pos (Or.inr e)]
      exact ih fun h => hn fun x hx => by
        rcases List.mem_cons.1 hx with rfl | hx
        · exact e
        · exact h x hx
    · rw [if_neg (by rintro (h | h); exact Bool.false_ne_true h; exact e h)]
theorem spec_warp (c : Int) (vals got : List Int) (t ph pr he seen ch : Int) (ht : 0 ≤ t ∧ t ≤ 4294967295) (hs : 0 ≤ seen ∧ seen ≤ 4294967295) (k : Nat) (hk : 8000 < k) :
    spec_WarpOk.f k c vals got t ph pr he seen ch = some (warpOk c vals got t ph pr he seen ch) := by
  obtain ⟨k, rfl⟩ : ∃ m, k = m + 3 := ⟨k - 3, by omega⟩
  have kill : ∀ q : Prop, [Decidable q] → ¬ q → spec_WarpOk.j0 (k + 3) ch true c vals got t ph pr he seen = some (if q then (if c = 0 then decide (t = 0 ∧ ph = 0 ∧ pr = 0 ∧ he = 0 ∧ seen = 0) else if reqOk c vals = true ∧ t ≠ 0 ∧ allAsk c vals t ∧ 0 ≤ pr then bodyOk c (leadOf vals t) ph pr he seen ch else false) else false) := by
    intro q _ hq
    rw [if_neg hq, spec_WarpOk.j0, if_pos rfl]
  unfold spec_WarpOk.f warpOk spec_l03Row.f
  by_cases g0 : ch < 0
  · rw [if_pos g0]
    exact kill _ (fun h => by omega)
  · by_cases g1 : ch > 16
    · rw [if_neg g0, if_pos g1]
      exact kill _ (fun h => by omega)
    · have c0 : 0 ≤ ch ∧ ch ≤ 16 := by omega
      rw [if_neg g0, if_neg g1, Option.bind_some]
      by_cases c1 : vals.length = 8
      · rw [show ((vals.length : Int) == 8) = true by simp; omega, if_pos rfl, Option.bind_some]
        by_cases c2 : got.length = 8
        · rw [show ((got.length : Int) == 8) = true by simp; omega, if_pos rfl, spec_mask t ht _ (by omega), Option.bind_some]
          by_cases c3 : t < 256
          · rw [decide_eq_true c3, if_pos (show (0 ≤ ch ∧ ch ≤ 16) ∧ vals.length = 8 ∧ got.length = 8 ∧ t < 256 from ⟨c0, c1, c2, c3⟩), Bool.not_true, spec_WarpOk.j0, if_neg Bool.false_ne_true]
            by_cases d0 : c = 0
            · rw [if_pos d0, if_pos d0, and3]
              by_cases e1 : t = 0
              · rw [if_pos e1]
                by_cases e2 : ph = 0
                · rw [if_pos e2]
                  congr 1
                  rw [decide_eq_decide]
                  omega
                · rw [if_neg e2, decide_eq_false (fun h => e2 h.2.1)]
              · rw [if_neg e1, decide_eq_false (fun h => e1 h.1)]
            · rw [if_neg d0, if_neg d0, spec_req c vals _ (by omega), Option.bind_some]
              have fail : ∀ q : Bool, q = false → spec_WarpOk.j1 (k + 2) ch true c vals got t ph pr he seen = some q := by
                rintro q rfl
                rw [spec_WarpOk.j1, if_pos rfl]
              by_cases d1 : reqOk c vals = true
              · rw [if_pos d1]
                by_cases d2 : t = 0
                · rw [if_pos d2]
                  exact fail _ (by rw [if_neg (fun h => h.2.1 d2)])
                · rw [if_neg d2]
                  -- what the body needs
                  have hbad : (ph < 0 ∨ pr < 0 ∨ he < 0 ∨ pr > ch ∨ he > 16) → (if reqOk c vals = true ∧ t ≠ 0 ∧ allAsk c vals t ∧ 0 ≤ pr then bodyOk c (leadOf vals t) ph pr he seen ch else false) = false := by
                    intro hx
                    by_cases d3 : reqOk c vals = true ∧ t ≠ 0 ∧ allAsk c vals t ∧ 0 ≤ pr
                    · rw [if_pos d3]
                      have hr := chunksFor_range (leadOf vals t)
                      unfold bodyOk giving small large
                      by_cases z : c = 2
                      · rw [if_pos z]
                        by_cases z0 : ph = 0
                        · rw [if_pos z0, decide_eq_false (by omega)]
                        · rw [if_neg z0]
                          by_cases z1 : ph = 1
                          · rw [if_pos z1, decide_eq_false (by omega), Bool.false_and]
                          · rw [if_neg z1]
                            by_cases z2 : ph = 2
                            · rw [if_pos z2, decide_eq_false (by omega)]
                            · rw [if_neg z2]
                      · rw [if_neg z]
                        by_cases z1 : leadOf vals t ≤ 16
                        · rw [if_pos z1]
                          by_cases z2 : he = 0 ∧ pr ≤ ch
                          · rw [if_pos z2, if_neg (show ¬ ph = 0 by omega), if_neg (show ¬ ph = 1 by omega)]
                          · rw [if_neg z2]
                        · rw [if_neg z1, if_neg (fun h => by omega)]
                    · rw [if_neg d3]
                  by_cases p1 : ph < 0
                  · rw [if_pos p1]; exact fail _ (hbad (by omega))
                  · rw [if_neg p1]
                    by_cases p2 : pr < 0
                    · rw [if_pos p2]; exact fail _ (hbad (by omega))
                    · rw [if_neg p2]
                      by_cases p3 : he < 0
                      · rw [if_pos p3]; exact fail _ (hbad (by omega))
                      · rw [if_neg p3]
                        by_cases p4 : pr > ch
                        · rw [if_pos p4]; exact fail _ (hbad (by omega))
                        · rw [if_neg p4]
                          by_cases p5 : he > 16
                          · rw [decide_eq_true p5]; exact fail _ (hbad (by omega))
                          · rw [decide_eq_false p5, spec_WarpOk.j1, if_neg Bool.false_ne_true, spec_asks c vals c1 _ (by omega), Option.bind_some]
                            have hbl := spec_bitList t.toNat (by omega) (k + 1) (by omega)
                            rw [show ((t.toNat : Nat) : Int) = t by omega] at hbl
                            rw [hbl, Option.bind_some]
                            obtain ⟨l, hfirst⟩ := bitList_first (x := t.toNat) (by omega) (by omega)
                            have hTl := bitList_len t.toNat
                            have hAl : (ons 0 (askBits c vals)).length ≤ 100 := by have := ons_length (askBits c vals) 0; rw [askBits_length] at this; omega
                            by_cases d3 : allAsk c vals t
                            · obtain ⟨j, hj1, hj2, hv⟩ := lead_facts c1 d1 d2 ht d3
                              have hR : ∀ k, 300 < k → spec_WarpOk.l0 k ch (ons 0 (askBits c vals)) (bitList t.toNat) ((bitList t.toNat).length : Int) c vals got t ph pr he seen = some (bodyOk c (leadOf vals t) ph pr he seen ch) := by
                                intro k hk
                                obtain ⟨k, rfl⟩ : ∃ m, k = m + 1 := ⟨k - 1, by omega⟩
                                have h0 : rd (bitList t.toNat) 0 = (j : Int) := by rw [hfirst, ← hj1]; rfl
                                have hlen : 0 < (bitList t.toNat).length := by rw [hfirst]; simp
                                have hl : rd vals (j : Int) = leadOf vals t := by unfold leadOf; rw [hj1]
                                rw [spec_WarpOk.l0, if_neg (show ¬ (((bitList t.toNat).length : Int) < ((bitList t.toNat).length : Int)) by omega), if_pos (by omega), h0, if_pos (by omega), if_pos (by omega), hl]
                                by_cases z : c = 1
                                · rw [if_pos z]
                                  exact spec_body c vals got t _ ph pr he seen ch hv c0 (by omega) (by omega) (by omega) hs _ (decide_eq_decide.2 (by omega)) k (by omega)
                                · rw [if_neg z]
                                  exact spec_body c vals got t _ ph pr he seen ch hv c0 (by omega) (by omega) (by omega) hs _ (by rw [decide_eq_false (fun h => z h.1)]) k (by omega)
                              have h := spec_all_loop c vals got _ _ t ph pr he seen ch (by omega) hAl _ hR (bitList t.toNat).length 0 (k + 1) (by omega) (by omega)
                              rw [Int.natCast_zero] at h
                              rw [h, List.drop_zero, if_pos (show ∀ x ∈ bitList t.toNat, x ∈ ons 0 (askBits c vals) from d3), if_pos (show reqOk c vals = true ∧ t ≠ 0 ∧ allAsk c vals t ∧ 0 ≤ pr from ⟨d1, d2, d3, by omega⟩)]
                            · have h := spec_none_loop c vals got (ons 0 (askBits c vals)) (bitList t.toNat) t ph pr he seen ch (by omega) hAl (bitList t.toNat).length 0 (k + 1) (by omega) (by omega) (by rw [List.drop_zero]; exact d3)
                              rw [Int.natCast_zero] at h
                              rw [h, if_neg (fun h => d3 h.2.2.1)]
              · rw [if_neg d1]
                exact fail _ (by rw [if_neg (fun h => d1 h.1)])
          · rw [decide_eq_false c3, Bool.not_false]
            exact kill _ (fun h => c3 h.2.2.2)
        · rw [show ((got.length : Int) == 8) = false by simp; omega, if_neg Bool.false_ne_true]
          exact kill _ (fun h => c2 h.2.2.1)
      · rw [show ((vals.length : Int) == 8) = false by simp; omega, if_neg Bool.false_ne_true]
        exact kill _ (fun h => c1 h.2.1)
end Go.Proofs.YtfhcnnkeokjfpaaDoor.Base
set_option linter.unusedVariables false
set_option linter.unusedSimpArgs false
namespace Go.Proofs.YtfhcnnkeokjfpaaDoor.Base
open Go.RowKit Go.Proofs.YtfhcnnkeokjfpaaDoor.PB1 Go.Proofs.YtfhcnnkeokjfpaaDoorW.PrintWords Go.Proofs.YtfhcnnkeokjfpaaDoorW.PrintLast

theorem szWarp_small (c : Int) (vals got : List Int) (t ph pr he seen : Int) (n : Int) (h1 : vals.length ≤ 9223372036854775807) (h2 : got.length ≤ 9223372036854775807) (h0 : 0 ≤ n ∧ n ≤ 1048576) :
    laws_szWarp.f c vals got t ph pr he seen n = some (if n < (vals.length : Int) + got.length then -1 else n - vals.length - got.length) := by
  unfold laws_szWarp.f
  rw [szIntS_eq vals n h1 h0.1 h0.2, Option.bind_some]
  by_cases c1 : n < (vals.length : Int)
  · rw [if_pos c1, if_pos (by omega), if_pos (by omega)]
  · rw [if_neg c1, if_neg (by omega), szIntS_eq got _ h2 (by omega) (by omega), Option.bind_some]
    by_cases c2 : n - (vals.length : Int) < got.length
    · rw [if_pos c2, if_pos (by omega), if_pos (by omega)]
    · rw [if_neg c2, if_neg (by omega), if_neg (by omega)]
theorem toWarp_eq (c : Int) (vals got : List Int) (t ph pr he seen : Int) (h1 : vals.length ≤ 1048576) (h2 : got.length ≤ 1048576) (k : Nat) (hk : vals.length + got.length < k) :
    laws_toWarp.f k c vals got t ph pr he seen = some (c, vals, got, t, ph, pr, he, seen) := by
  unfold laws_toWarp.f
  rw [toIntS_eq vals h1 k (by omega), Option.bind_some, toIntS_eq got h2 k (by omega), Option.bind_some]
theorem eqWarp_self (c : Int) (vals got : List Int) (t ph pr he seen : Int) (h1 : vals.length ≤ 1048576) (h2 : got.length ≤ 1048576) (k : Nat) (hk : vals.length + got.length < k) :
    laws_eqWarp.f k c vals got t ph pr he seen c vals got t ph pr he seen = some true := by
  unfold laws_eqWarp.f
  rw [if_pos rfl, eqIntS_self vals (by omega) k (by omega), Option.bind_some, if_pos rfl, eqIntS_self got (by omega) k (by omega), Option.bind_some, if_pos rfl, if_pos rfl, if_pos rfl, if_pos rfl, if_pos rfl, if_pos rfl]
end Go.Proofs.YtfhcnnkeokjfpaaDoor.Base
set_option linter.unusedVariables false
set_option linter.unusedSimpArgs false
namespace Go.Proofs.YtfhcnnkeokjfpaaDoor.Base
open Go.RowKit Go.Proofs.YtfhcnnkeokjfpaaDoor.PB1 Go.Proofs.YtfhcnnkeokjfpaaDoorW.PrintWords Go.Proofs.YtfhcnnkeokjfpaaDoorW.PrintLast Go.Proofs.YtfhcnnkeokjfpaaDoorW.PrintMore

/-! ### the reference's word of a list of places -/
theorem val_bits : ∀ (N x : Nat), x < 2 ^ N → val (bitsN N x) = x
  | 0, x, h => by
    have : x = 0 := by simpa using h
    subst this
    rfl
  | N + 1, x, h => by
    rw [Nat.pow_succ] at h
    rw [bitsN, val, val_bits N (x / 2) (by omega)]
    omega
theorem drop_bits : ∀ (j N x : Nat), (bitsN N x).drop j = bitsN (N - j) (x / 2 ^ j)
  | 0, N, x => by simp
  | j + 1, 0, x => by simp [bitsN]
  | j + 1, N + 1, x => by
    rw [bitsN, List.drop_succ_cons, drop_bits j N (x / 2), Nat.div_div_eq_div_mul, Nat.mul_comm 2, ← Nat.pow_succ, show N + 1 - (j + 1) = N - j by omega]
theorem bits_01 : ∀ (N x : Nat), ∀ b ∈ bitsN N x, 0 ≤ b ∧ b ≤ 1
  | 0, x, b, h => by simp [bitsN] at h
  | N + 1, x, b, h => by
    rw [bitsN] at h
    rcases List.mem_cons.1 h with rfl | h
    · omega
    · exact bits_01 N _ b h
theorem set_bits : ∀ (N n x : Nat), n < N → x / 2 ^ n % 2 = 0 → (bitsN N x).set n 1 = bitsN N (x + 2 ^ n)
  | 0, n, x, h, _ => by omega
  | N + 1, 0, x, h, hb => by
    simp at hb
    rw [bitsN, bitsN, List.set_cons_zero, Nat.pow_zero, show (x + 1) / 2 = x / 2 by omega, show (x + 1) % 2 = 1 by omega]
    rfl
  | N + 1, n + 1, x, h, hb => by
    have hb' : x / 2 / 2 ^ n % 2 = 0 := by rw [Nat.div_div_eq_div_mul, Nat.mul_comm 2, ← Nat.pow_succ]; exact hb
    rw [bitsN, bitsN, List.set_cons_succ, set_bits N n (x / 2) (by omega) hb', Nat.pow_succ, show (x + 2 ^ n * 2) / 2 = x / 2 + 2 ^ n by omega, show (x + 2 ^ n * 2) % 2 = x % 2 by omega]
theorem spec_word (x : Nat) (hx : x < 4294967296) (k : Nat) (hk : 40 < k) : spec_l01Word.f k (bitsN 32 x) = some (x : Int) := by
  have hb : ∀ j : Nat, j ≤ 32 → 0 ≤ val ((bitsN 32 x).drop j) ∧ val ((bitsN 32 x).drop j) < 4294967296 := by
    intro j hj
    have hle := Nat.div_le_self x (2 ^ j)
    rw [drop_bits, val_bits (32 - j) (x / 2 ^ j) (by rw [Nat.div_lt_iff_lt_mul (Nat.two_pow_pos j), ← Nat.pow_add, show 32 - j + j = 32 by omega]; exact hx)]
    generalize x / 2 ^ j = y at hle
    omega
  have L := spec_word_loop (bitsN 32 x) (bitsN_length 32 x) hb (bits_01 32 x) 32 k (by omega) (by omega)
  unfold spec_l01Word.f
  rw [bitsN_length, w64 (by omega) (by omega)]
  rw [List.drop_of_length_le (by rw [bitsN_length]; omega), val_bits 32 x (by simpa using hx)] at L
  exact L
theorem inc_split : ∀ (p : List Int) (lo hi : Nat) (e : Nat) (r : List Int), inc lo hi (p ++ (e : Int) :: r) → lo ≤ e ∧ e < hi ∧ inc lo e p
  | [], lo, hi, e, r, h => ⟨by have := h.1; omega, by have := h.2.1; omega, trivial⟩
  | b :: p, lo, hi, e, r, h => by
    obtain ⟨h1, h2, h3⟩ := h
    have := inc_split p _ hi e r h3
    exact ⟨by omega, this.2.1, h1, by omega, this.2.2⟩
theorem sum_append : ∀ (p r : List Int), sumL (p ++ r) = sumL p + sumL r
  | [], r => by simp [sumL]
  | b :: p, r => by rw [List.cons_append, sumL, sumL, sum_append p r, Nat.add_assoc]
theorem spec_set_loop (l : List Int) (hl : inc 0 32 l) (hn : l.length ≤ 32) : ∀ (r p : List Int) (k : Nat), l = p ++ r → r.length + 60 < k → spec_BitsOf.l0 k l (bitsN 32 (sumL p)) (p.length : Int) = some (((sumL l : Nat) : Int), true)
  | [], p, k, h, hk => by
    obtain ⟨k, rfl⟩ : ∃ m, k = m + 1 := ⟨k - 1, by omega⟩
    rw [List.append_nil] at h
    subst h
    have := sum_bound l 0 32 (by omega) hl
    rw [spec_BitsOf.l0, if_neg (by omega), spec_word _ (by omega) k (by omega), Option.bind_some]
  | e :: r, p, k, h, hk => by
    obtain ⟨k, rfl⟩ : ∃ m, k = m + 1 := ⟨k - 1, by omega⟩
    have hlen : l.length = p.length + (r.length + 1) := by rw [h]; simp
    have he : rd l (p.length : Int) = e := by
      unfold rd
      rw [h]
      simp [List.getD_eq_getElem?_getD]
    have he0 : 0 ≤ e := by
      have hsp : ∀ (p : List Int) (lo : Nat), inc lo 32 (p ++ e :: r) → 0 ≤ e := by
        intro p
        induction p with
        | nil => intro lo h; have := h.1; omega
        | cons b p ih => intro lo h; exact ih _ h.2.2
      exact hsp p 0 (by rw [← h]; exact hl)
    obtain ⟨i, rfl⟩ := Int.eq_ofNat_of_zero_le he0
    rw [h] at hl
    obtain ⟨h1, h2, h3⟩ := inc_split p 0 32 i r hl
    have hs := sum_bound p 0 i (by omega) h3
    have hz : sumL p / 2 ^ i = 0 := Nat.div_eq_of_lt (by omega)
    have hrd : rd (bitsN 32 (sumL p)) (i : Int) = 0 := by
      have := rd_bits 32 (sumL p) i h2
      unfold rd
      rw [Int.toNat_natCast, this, hz]
      rfl
    have hset := set_bits 32 i (sumL p) h2 (by rw [hz])
    have ih := spec_set_loop l (by rw [h]; exact hl) hn r (p ++ [(i : Int)]) k (by rw [h, List.append_assoc, List.singleton_append]) (by simp at hk; omega)
    rw [List.length_append, List.length_singleton, sum_append] at ih
    have hs1 : sumL [(i : Int)] = 2 ^ i := by simp [sumL]
    rw [hs1] at ih
    rw [spec_BitsOf.l0, if_pos (by omega), if_pos (by omega), he, if_neg (by omega), if_neg (by omega), if_pos (by omega), if_pos (by rw [bitsN_length]; omega), hrd, if_neg (by decide), Int.toNat_natCast, hset, w64 (by omega) (by omega), show (p.length : Int) + 1 = ((p.length + 1 : Nat) : Int) by omega, ih]
theorem spec_setOf (l : List Int) (hl : inc 0 32 l) (hn : l.length ≤ 32) (k : Nat) (hk : 100 < k) : spec_BitsOf.f k l = some (((sumL l : Nat) : Int), true) := by
  unfold spec_BitsOf.f
  rw [if_pos (by decide)]
  have := spec_set_loop l hl hn l [] k rfl (by omega)
  rw [show bitsN 32 (sumL []) = List.replicate 32 0 by decide] at this
  exact this
end Go.Proofs.YtfhcnnkeokjfpaaDoor.Base
set_option linter.unusedVariables false
set_option linter.unusedSimpArgs false
namespace Go.Proofs.YtfhcnnkeokjfpaaDoor.Base
open Go.RowKit Go.Proofs.YtfhcnnkeokjfpaaDoor.PB1 Go.Proofs.YtfhcnnkeokjfpaaDoorW.PrintWords Go.Proofs.YtfhcnnkeokjfpaaDoorW.PrintLast Go.Proofs.YtfhcnnkeokjfpaaDoorW.PrintMore

/-- The class of a size up to 256, -1 if it is larger than a chunk. -/
def cl (v : Int) : Int := if v ≤ 16 then cls v else -1
theorem impl_cl_all : ∀ n : Fin 256, impl_ClassOf.f 20 ((n.val : Int) + 1) = some (cl ((n.val : Int) + 1)) := by decide +kernel
theorem spec_cl_all : ∀ n : Fin 256, spec_ClassOf.f 40 ((n.val : Int) + 1) = some (cl ((n.val : Int) + 1)) := by decide +kernel
theorem impl_cl {v : Int} (h : 1 ≤ v ∧ v ≤ 256) (k : Nat) (hk : 20 ≤ k) : impl_ClassOf.f k v = some (cl v) := by
  have h0 := impl_cl_all ⟨(v - 1).toNat, by omega⟩
  rw [show (((v - 1).toNat : Nat) : Int) + 1 = v by omega] at h0
  exact up (f := fun k => impl_ClassOf.f k v) (fun k => impl_ClassOf.mono v k) h0 k hk
theorem spec_cl {v : Int} (h : 1 ≤ v ∧ v ≤ 256) (k : Nat) (hk : 40 ≤ k) : spec_ClassOf.f k v = some (cl v) := by
  have h0 := spec_cl_all ⟨(v - 1).toNat, by omega⟩
  rw [show (((v - 1).toNat : Nat) : Int) + 1 = v by omega] at h0
  exact up (f := fun k => spec_ClassOf.f k v) (fun k => spec_ClassOf.mono v k) h0 k hk

theorem inc_filter (f : Int → Bool) : ∀ (l : List Int) (lo hi : Nat), inc lo hi l → inc lo hi (l.filter f)
  | [], lo, hi, h => trivial
  | b :: r, lo, hi, h => by
    obtain ⟨h1, h2, h3⟩ := h
    have ih := inc_filter f r _ hi h3
    rw [List.filter_cons]
    split
    · exact ⟨h1, h2, ih⟩
    · exact inc_mono ih (by omega)
/-- The lanes of one class. -/
def grp (vals : List Int) (q : Int) (l : List Int) : List Int := l.filter fun b => decide (cl (rd vals b) = q)
theorem grp_append (vals : List Int) (q : Int) (p : List Int) (b : Int) : grp vals q (p ++ [b]) = if cl (rd vals b) = q then grp vals q p ++ [b] else grp vals q p := by
  unfold grp
  rw [List.filter_append, List.filter_cons]
  by_cases h : cl (rd vals b) = q <;> simp [h]
theorem grp_len (vals : List Int) (q : Int) (l : List Int) : (grp vals q l).length ≤ l.length := List.length_filter_le _ _
theorem rd_mid (p r : List Int) (e : Int) : rd (p ++ e :: r) (p.length : Int) = e := by
  unfold rd
  simp [List.getD_eq_getElem?_getD]

theorem impl_group_loop (c : Int) (vals got L : List Int) (t ph pr he seen v : Int) (hl : vals.length = 8) (hL : inc 0 8 L) (hin : ∀ b ∈ L, 1 ≤ rd vals b ∧ rd vals b ≤ 256) (hlead : impl_Warp_lead.f c vals got t ph pr he seen = some v) (hv : 1 ≤ v ∧ v ≤ 16) :
    ∀ (r p : List Int) (k : Nat), L = p ++ r → L.length ≤ 32 → r.length + 30 < k → impl_Warp_group.l0 k (sumL (grp vals (cl v) p) : Nat) L (L.length : Int) (p.length : Int) c vals got t ph pr he seen = some ((sumL (grp vals (cl v) L) : Nat) : Int)
  | [], p, k, h, hn, hk => by
    obtain ⟨k, rfl⟩ : ∃ m, k = m + 1 := ⟨k - 1, by omega⟩
    rw [List.append_nil] at h
    subst h
    rw [impl_Warp_group.l0, if_neg (by omega)]
  | e :: r, p, k, h, hn, hk => by
    obtain ⟨k, rfl⟩ : ∃ m, k = m + 1 := ⟨k - 1, by omega⟩
    have hlen : L.length = p.length + (r.length + 1) := by rw [h]; simp
    have hel : rd L (p.length : Int) = e := by rw [h]; exact rd_mid p r e
    have hm := hin e (by rw [h]; simp)
    have he0 : 0 ≤ e := by
      have hsp : ∀ (p : List Int) (lo : Nat), inc lo 8 (p ++ e :: r) → 0 ≤ e := by
        intro p
        induction p with
        | nil => intro lo h; have := h.1; omega
        | cons b p ih => intro lo h; exact ih _ h.2.2
      exact hsp p 0 (by rw [← h]; exact hL)
    obtain ⟨i, rfl⟩ := Int.eq_ofNat_of_zero_le he0
    have hL2 := hL
    rw [h] at hL2
    obtain ⟨h1, h2, h3⟩ := inc_split p 0 8 i r hL2
    have hs := sum_bound _ 0 i (by omega) (inc_filter (fun b => decide (cl (rd vals b) = cl v)) p 0 i h3)
    have hp : (2 : Nat) ^ i ≤ 2 ^ 7 := Nat.pow_le_pow_right (by omega) (by omega)
    have ih := impl_group_loop c vals got L t ph pr he seen v hl hL hin hlead hv r (p ++ [(i : Int)]) k (by rw [h, List.append_assoc, List.singleton_append]) hn (by simp at hk; omega)
    rw [List.length_append, List.length_singleton, grp_append] at ih
    rw [impl_Warp_group.l0, if_pos (by omega), if_pos (by omega), if_pos (by omega), hel, if_pos (by omega), if_pos (by omega), impl_cl hm k (by simp at hk; omega), Option.bind_some, hlead, Option.bind_some, impl_cl (by omega) k (by simp at hk; omega), Option.bind_some, w64 (by omega) (by omega), show (p.length : Int) + 1 = ((p.length + 1 : Nat) : Int) by omega]
    by_cases q : cl (rd vals (i : Int)) = cl v
    · rw [if_pos q] at ih ⊢
      rw [sum_append, show sumL [(i : Int)] = 2 ^ i by simp [sumL]] at ih
      rw [shl1 (by omega), u32_or_nat _ (2 ^ i) (by unfold grp; omega) (by omega), or_above (by unfold grp; omega)]
      exact ih
    · rw [if_neg q] at ih ⊢
      exact ih
theorem spec_group_loop (c : Int) (vals got L : List Int) (t ph pr he seen v : Int) (hl : vals.length = 8) (hL : inc 0 8 L) (hin : ∀ b ∈ L, 1 ≤ rd vals b ∧ rd vals b ≤ 256) (h0 : 0 < L.length) (hlead : rd vals (rd L 0) = v) (hv : 1 ≤ v ∧ v ≤ 16) (hr0 : 0 ≤ rd L 0 ∧ rd L 0 < 8) :
    ∀ (r p : List Int) (k : Nat), L = p ++ r → L.length ≤ 32 → r.length + 50 < k → spec_l07Group.l0 k L (grp vals (cl v) p) (p.length : Int) c vals got t ph pr he seen = some (grp vals (cl v) L)
  | [], p, k, h, hn, hk => by
    obtain ⟨k, rfl⟩ : ∃ m, k = m + 1 := ⟨k - 1, by omega⟩
    rw [List.append_nil] at h
    subst h
    rw [spec_l07Group.l0, if_neg (by omega)]
  | e :: r, p, k, h, hn, hk => by
    obtain ⟨k, rfl⟩ : ∃ m, k = m + 1 := ⟨k - 1, by omega⟩
    have hlen : L.length = p.length + (r.length + 1) := by rw [h]; simp
    have hel : rd L (p.length : Int) = e := by rw [h]; exact rd_mid p r e
    have hm := hin e (by rw [h]; simp)
    have he0 : 0 ≤ e := by
      have hsp : ∀ (p : List Int) (lo : Nat), inc lo 8 (p ++ e :: r) → 0 ≤ e := by
        intro p
        induction p with
        | nil => intro lo h; have := h.1; omega
        | cons b p ih => intro lo h; exact ih _ h.2.2
      exact hsp p 0 (by rw [← h]; exact hL)
    obtain ⟨i, rfl⟩ := Int.eq_ofNat_of_zero_le he0
    have hL2 := hL
    rw [h] at hL2
    obtain ⟨h1, h2, h3⟩ := inc_split p 0 8 i r hL2
    have ih := spec_group_loop c vals got L t ph pr he seen v hl hL hin h0 hlead hv hr0 r (p ++ [(i : Int)]) k (by rw [h, List.append_assoc, List.singleton_append]) hn (by simp at hk; omega)
    rw [List.length_append, List.length_singleton, grp_append] at ih
    have hg := grp_len vals (cl v) p
    rw [spec_l07Group.l0, if_pos (by omega), if_pos (by omega), hel, if_pos (by omega), if_pos (by omega), spec_cl hm k (by simp at hk; omega), Option.bind_some, if_pos (by omega), if_pos (by omega), if_pos (by omega), hlead, spec_cl (by omega) k (by simp at hk; omega), Option.bind_some, w64 (by omega) (by omega), show (p.length : Int) + 1 = ((p.length + 1 : Nat) : Int) by omega]
    by_cases q : cl (rd vals (i : Int)) = cl v
    · rw [if_pos q] at ih ⊢
      rw [if_pos (by omega)]
      exact ih
    · rw [if_neg q] at ih ⊢
      exact ih

theorem ok_facts {c : Int} {vals got : List Int} {t ph pr he seen ch : Int} (h : warpOk c vals got t ph pr he seen ch = true) (h0 : t ≠ 0) : vals.length = 8 ∧ t < 256 ∧ c ≠ 0 ∧ reqOk c vals = true ∧ allAsk c vals t := by
  unfold warpOk at h
  split at h
  · rename_i h1
    split at h
    · rename_i h2
      simp only [decide_eq_true_eq] at h
      exact absurd h.1 h0
    · rename_i h2
      split at h
      · rename_i h3
        exact ⟨h1.2.1, h1.2.2.2, h2, h3.1, h3.2.2.1⟩
      · exact absurd h (by decide)
  · exact absurd h (by decide)
theorem lane_facts {c : Int} {vals : List Int} {t : Int} (hl : vals.length = 8) (hq : reqOk c vals = true) (ha : allAsk c vals t) : ∀ b ∈ bitList t.toNat, (0 ≤ b ∧ b < 8) ∧ (c = 1 ∧ 1 ≤ rd vals b ∧ rd vals b ≤ 256 ∨ c = 2 ∧ 0 ≤ rd vals b ∧ rd vals b ≤ 4095) := by
  intro b hb
  obtain ⟨j, hj, hg, he⟩ := (mem_ons _ 0 _).1 (ha b hb)
  rw [askBits_length, hl] at hj
  rw [askBits_get c vals j (by omega)] at hg
  have hv : vals.getD j 0 = vals[j] := by rw [← rd_nat, rdG vals j (by omega)]
  have hbj : b = (j : Int) := by omega
  subst hbj
  rw [rdG vals j (by omega)]
  have hask : askB c vals[j] = true := by
    rw [hv] at hg
    by_cases z : askB c vals[j] = true
    · exact z
    · rw [if_neg z] at hg; omega
  have hm : vals[j] ∈ vals := List.getElem_mem _
  unfold reqOk at hq
  unfold askB at hask
  simp only [Bool.and_eq_true, Bool.or_eq_true, decide_eq_true_eq, List.all_eq_true] at hq hask
  refine ⟨by omega, ?_⟩
  obtain ⟨_, ⟨q1, q2⟩ | ⟨q1, q2⟩⟩ := hq
  · have := q2 _ hm
    left
    omega
  · have := q2 _ hm
    right
    omega
theorem inc8 {x : Nat} (h : x < 256) : inc 0 8 (bitList x) := by
  have := ons_high 8 24 0 x (by omega)
  have e : bitList x = ons 0 (bitsN 8 x) := this
  rw [e]
  exact inc_ons 8 0 x
/-- The mask of a group. -/
def groupOf (c : Int) (vals : List Int) (t : Int) : Int :=
  if t = 0 then 0 else if c = 1 ∧ leadOf vals t ≤ 16 then ((sumL (grp vals (cl (leadOf vals t)) (bitList t.toNat)) : Nat) : Int) else ((2 ^ Lib.ctz 32 t.toNat : Nat) : Int)
theorem low_one {x : Nat} (h0 : x ≠ 0) (h : x < 256) : Go.bits .and .u32 (x : Int) ((-(x : Int)) % 4294967296) = ((2 ^ Lib.ctz 32 x : Nat) : Int) := by
  obtain ⟨r, hr⟩ := bitList_first h0 (by omega)
  have hi := inc8 h
  have hs := sum_bitList (x := x) (by omega)
  generalize Lib.ctz 32 x = i at hr ⊢
  rw [hr] at hi hs
  obtain ⟨h1, h2, h3⟩ := hi
  simp only [Int.toNat_natCast] at h3
  obtain ⟨q, hq⟩ := sum_div r (i + 1) _ h3
  have hX : x = 2 ^ i * (2 * q + 1) := by
    rw [← hs, sumL, Int.toNat_natCast, hq, Nat.pow_succ, Nat.mul_assoc, Nat.mul_add, Nat.mul_one, Nat.add_comm]
  have e2 : (-(x : Int)) % 4294967296 = ((4294967296 - x : Nat) : Int) := by omega
  have eB : x &&& (4294967296 - x) = 2 ^ i := by rw [hX]; exact low_and (by omega) (by rw [← hX]; omega)
  rw [e2, u32_and_nat x (4294967296 - x) (by omega) (by omega), eB]
theorem impl_group {c : Int} {vals got : List Int} {t ph pr he seen ch : Int} (ht : 0 ≤ t ∧ t ≤ 4294967295) (h : warpOk c vals got t ph pr he seen ch = true) (k : Nat) (hk : 100 < k) : impl_Warp_group.f k c vals got t ph pr he seen = some (groupOf c vals t) := by
  unfold impl_Warp_group.f groupOf
  by_cases h0 : t = 0
  · rw [if_pos h0, if_pos h0]
  · rw [if_neg h0, if_neg h0]
    obtain ⟨h1, h2, h3, h4, h5⟩ := ok_facts h h0
    have hlead := impl_lead (got := got) (ph := ph) (pr := pr) (he := he) (seen := seen) h1 h4 h0 ht h5
    obtain ⟨j, hj1, hj2, hv⟩ := lead_facts h1 h4 h0 ht h5
    have hlow := low_one (x := t.toNat) (by omega) (by omega)
    rw [show ((t.toNat : Nat) : Int) = t by omega] at hlow
    unfold impl_Warp_isSmall.f
    by_cases d5 : c = 1
    · subst d5
      rw [if_pos rfl, hlead, Option.bind_some, Option.bind_some]
      by_cases d6 : leadOf vals t ≤ 16
      · rw [decide_eq_true d6, if_pos rfl, if_pos (show (1 : Int) = 1 ∧ leadOf vals t ≤ 16 from ⟨rfl, d6⟩)]
        have hb := impl_bitList t.toNat (by omega) k (by omega)
        rw [show ((t.toNat : Nat) : Int) = t by omega] at hb
        rw [hb, Option.bind_some]
        have := impl_group_loop 1 vals got (bitList t.toNat) t ph pr he seen _ h1 (inc8 (by omega)) (fun b hb => by have := lane_facts h1 h4 h5 b hb; omega) hlead (by omega) (bitList t.toNat) [] k rfl (bitList_len _) (by have := bitList_len t.toNat; omega)
        exact this
      · rw [decide_eq_false d6, if_neg Bool.false_ne_true, if_neg (fun h => d6 h.2), hlow]
    · rw [if_neg d5, Option.bind_some, if_neg Bool.false_ne_true, if_neg (fun h => d5 h.1), hlow]
theorem spec_group {c : Int} {vals got : List Int} {t ph pr he seen ch : Int} (ht : 0 ≤ t ∧ t ≤ 4294967295) (h : warpOk c vals got t ph pr he seen ch = true) (h0 : t ≠ 0) (k : Nat) (hk : 200 < k) : ∃ l ok, spec_l07Group.f k c vals got t ph pr he seen = some l ∧ spec_BitsOf.f k l = some (groupOf c vals t, ok) := by
  unfold spec_l07Group.f groupOf
  obtain ⟨h1, h2, h3, h4, h5⟩ := ok_facts h h0
  obtain ⟨j, hj1, hj2, hv⟩ := lead_facts h1 h4 h0 ht h5
  obtain ⟨r, hr⟩ := bitList_first (x := t.toNat) (by omega) (by omega)
  have hb := spec_bitList t.toNat (by omega) k (by omega)
  rw [show ((t.toNat : Nat) : Int) = t by omega] at hb
  have hll := bitList_len t.toNat
  have hi8 := inc8 (x := t.toNat) (by omega)
  have hlf := lane_facts h1 h4 h5
  have hrd : rd (bitList t.toNat) 0 = (Lib.ctz 32 t.toNat : Int) := by rw [hr]; rfl
  have hle : rd vals (rd (bitList t.toNat) 0) = leadOf vals t := by rw [hrd]; rfl
  have hpos : 0 < (bitList t.toNat).length := by rw [hr]; simp
  have one : ∃ l ok, spec_l07Group.j0 k (bitList t.toNat) true c vals got t ph pr he seen = some l ∧ spec_BitsOf.f k l = some (((2 ^ Lib.ctz 32 t.toNat : Nat) : Int), ok) := by
    obtain ⟨k, rfl⟩ : ∃ m, k = m + 1 := ⟨k - 1, by omega⟩
    refine ⟨[(Lib.ctz 32 t.toNat : Int)], true, ?_, ?_⟩
    · rw [spec_l07Group.j0, if_pos rfl, if_pos (by omega), hr]
      rfl
    · exact spec_bitsOf (by omega) _ (by omega)
  rw [hb, Option.bind_some, if_neg h0]
  by_cases d5 : c = 1
  · subst d5
    rw [if_neg (by decide), if_pos (by omega), if_pos (by omega), if_pos (by omega), hle]
    by_cases d6 : leadOf vals t ≤ 16
    · rw [decide_eq_false (by omega), if_pos (show (1 : Int) = 1 ∧ leadOf vals t ≤ 16 from ⟨rfl, d6⟩)]
      refine ⟨grp vals (cl (leadOf vals t)) (bitList t.toNat), true, ?_, ?_⟩
      · obtain ⟨k, rfl⟩ : ∃ m, k = m + 1 := ⟨k - 1, by omega⟩
        rw [spec_l07Group.j0, if_neg Bool.false_ne_true]
        have := spec_group_loop 1 vals got (bitList t.toNat) t ph pr he seen _ h1 hi8 (fun b hb => by have := hlf b hb; omega) hpos hle (by omega) (by omega) (bitList t.toNat) [] k rfl hll (by omega)
        exact this
      · have hg := grp_len vals (cl (leadOf vals t)) (bitList t.toNat)
        unfold grp at hg ⊢
        exact spec_setOf _ (inc_mono_hi (by omega) _ _ (inc_filter _ _ _ _ hi8)) (by omega) k (by omega)
    · rw [decide_eq_true (by omega), if_neg (fun h => d6 h.2)]
      exact one
  · rw [if_pos (show c = 2 by omega), if_neg (fun h => d5 h.1)]
    exact one
end Go.Proofs.YtfhcnnkeokjfpaaDoor.Base
set_option linter.unusedSimpArgs false
namespace Go.Proofs.YtfhcnnkeokjfpaaDoor.Pure
open Go.RowKit Go.Proofs.YtfhcnnkeokjfpaaDoor.Base Go.Proofs.YtfhcnnkeokjfpaaDoor.PB1 Go.Proofs.YtfhcnnkeokjfpaaDoorW.PrintWords Go.Proofs.YtfhcnnkeokjfpaaDoorW.PrintLast

theorem FnExactWarpGroup : laws_FnExactWarpGroup.Pure := by
  intro c vals got t ph pr he seen wc ⟨hn1, hv⟩ ⟨hn2, hg⟩ wt wph wpr whe wseen
  have ht := wf_u32 wt
  have hs := wf_u32 wseen
  refine ⟨vals.length + got.length + 9000, ?_⟩
  have e1 := szWarp_small c vals got t ph pr he seen 1048576 hn1 hn2 (by omega)
  unfold laws_FnExactWarpGroup.f
  rw [e1, Option.bind_some]
  by_cases hc : (1048576 : Int) < (vals.length : Int) + got.length
  · rw [if_pos hc, if_pos (by omega)]
  · rw [if_neg hc, if_neg (by omega)]
    have e2 := toWarp_eq c vals got t ph pr he seen (by omega) (by omega) (vals.length + got.length + 9000) (by omega)
    have e3 := eqWarp_self c vals got t ph pr he seen (by omega) (by omega) (vals.length + got.length + 9000) (by omega)
    have hw4 := spec_warp c vals got t ph pr he seen 16 ⟨ht.1, ht.2⟩ ⟨hs.1, hs.2⟩ (vals.length + got.length + 9000) (by omega)
    have hw5 := impl_warp c vals got t ph pr he seen 16 (wf_i64 wpr) (wf_i64 whe) (fun x hx => wf_i64 (hv x hx)) ⟨ht.1, ht.2⟩ ⟨hs.1, hs.2⟩ (vals.length + got.length + 9000) (by omega)
    have both : ∃ g, spec_WarpGroup.f (vals.length + got.length + 9000) c vals got t ph pr he seen = some g ∧ impl_WarpGroup.f (vals.length + got.length + 9000) c vals got t ph pr he seen = some g := by
      unfold spec_WarpGroup.f impl_WarpGroup.f
      rw [hw4, hw5, Option.bind_some, Option.bind_some]
      obtain ⟨k, hk, hk2⟩ : ∃ m, vals.length + got.length + 9000 = m + 1 ∧ 300 < m := ⟨vals.length + got.length + 8999, by omega, by omega⟩
      rw [hk]
      by_cases ok : warpOk c vals got t ph pr he seen 16 = true
      · rw [if_pos ok, if_pos ok, impl_group ⟨ht.1, ht.2⟩ ok _ (by omega), Option.bind_some, spec_WarpGroup.j0]
        by_cases h0 : t = 0
        · refine ⟨0, ?_, ?_⟩
          · rw [if_pos (by simp [h0])]
          · unfold groupOf
            rw [if_pos h0]
        · obtain ⟨l, b, p1, p2⟩ := spec_group ⟨ht.1, ht.2⟩ ok h0 k (by omega)
          refine ⟨_, ?_, rfl⟩
          rw [if_neg (by simp [h0]), p1, Option.bind_some, p2, Option.bind_some]
      · refine ⟨0, ?_, ?_⟩
        · rw [if_neg ok, spec_WarpGroup.j0, if_pos rfl]
        · rw [if_neg ok]
    obtain ⟨g, e4, e5⟩ := both
    rw [e2, Option.bind_some, e4, Option.bind_some, Option.bind_some, e5, Option.bind_some]
    rw [if_pos rfl, Option.bind_some, e3, Option.bind_some, if_pos rfl]

end Go.Proofs.YtfhcnnkeokjfpaaDoor.Pure
set_option linter.unusedVariables false
namespace Go.Proofs.YtfhcnnkeokjfpaaDoor.Opn
open Go.RowKit Go.WideShapes Go.ChangeShapes Go.Proofs.YtfhcnnkeokjfpaaDoorW.PrintWords

/-- What reads as data at type t is of kind k, and well formed. -/
structure Opn (P : Program) (t : TypeId) {α : Type} (k : Kd α) (wf : α → Prop) : Prop where
  sz : P.cellsOf t = k.sz
  get : ∀ {H : Type} (enc : TypeId × Value → H) (w : World) (base : Nat) (spare : Nat → Bool) (held : Bool) (n : Nat) (cs : List Value) (x : DataW H × List MemPlace),
    DataW.trod enc P w base spare held n t cs = some x → ∃ a, k.K w a cs ∧ wf a

theorem Opn.int {P : Program} {t : TypeId} {ik : IntKind} (ht : P.underlying t = some (.int ik)) (hc : P.cellsOf t = 1) : Opn P t (Kd.int ik) (fun n => (Lit.int ik n).wf = true) := by
  refine ⟨hc, fun enc w base spare held n cs x h => ?_⟩
  obtain ⟨m, rfl, _, hw⟩ := DataW.trod_int ht h
  exact ⟨m, rfl, hw⟩

theorem Opn.bool {P : Program} {t : TypeId} (ht : P.underlying t = some .bool) (hc : P.cellsOf t = 1) : Opn P t Kd.bool (fun _ => True) := by
  refine ⟨hc, fun enc w base spare held n cs x h => ?_⟩
  obtain ⟨m, rfl, _⟩ := DataW.trod_bool ht h
  exact ⟨m, rfl, trivial⟩

theorem Opn.iso {P : Program} {t : TypeId} {α β : Type} {k : Kd α} {wf : α → Prop} {f : β → α} (g : α → β) (hfg : ∀ a, f (g a) = a) (h : Opn P t k wf) : Opn P t (Kd.iso k f) (fun b => wf (f b)) := by
  refine ⟨h.sz, fun enc w base spare held n cs x hx => ?_⟩
  obtain ⟨a, hk, hw⟩ := h.get enc w base spare held n cs x hx
  exact ⟨g a, by show k.K w (f (g a)) cs; rw [hfg]; exact hk, by show wf (f (g a)); rw [hfg]; exact hw⟩

theorem chosen {α : Type} {p : Nat → α → Prop} : ∀ n, (∀ i, i < n → ∃ a, p i a) → ∃ xs : List α, xs.length = n ∧ ∀ i a, xs[i]? = some a → p i a
  | 0, _ => ⟨[], rfl, fun i a h => by simp at h⟩
  | n + 1, h => by
    obtain ⟨xs, hl, hx⟩ := chosen n (fun i hi => h i (Nat.lt_succ_of_lt hi))
    obtain ⟨a, ha⟩ := h n (Nat.lt_succ_self n)
    refine ⟨xs ++ [a], by simp [hl], fun i b hb => ?_⟩
    rcases Nat.lt_or_ge i xs.length with hi | hi
    · rw [List.getElem?_append_left hi] at hb
      exact hx i b hb
    · have hi' := (List.getElem?_eq_some_iff.1 hb).1
      simp at hi'
      obtain rfl : i = n := by omega
      rw [← hl] at hb
      simp at hb
      subst hb
      exact ha

theorem Opn.slice {P : Program} {t e : TypeId} {α : Type} {k : Kd α} {wf : α → Prop} (ht : P.underlying t = some (.slice e)) (hc : P.cellsOf t = 1) (h : Opn P e k wf) : Opn P t (Kd.slice e k) (fun xs => xs.length ≤ 9223372036854775807 ∧ ∀ x ∈ xs, wf x) := by
  refine ⟨hc, fun enc w base spare held n cs x hx => ?_⟩
  rcases DataW.trod_slice ht hx with ⟨rfl, _⟩ | ⟨a, len, cap, elems, rest, m, _, rfl, _, _, hl, hm, hel, he, _, _⟩
  · exact ⟨[], ⟨none, 0, rfl, Nat.le_refl _, rfl, by simp, fun h0 => absurd h0 (by simp)⟩, by simp, fun x hx => by simp at hx⟩
  · have one : ∀ i, i < len → ∃ b : α, (∃ c, c.length = k.sz ∧ k.K w b c ∧ ∀ j u, c[j]? = some u → w.cell? (a.add (i * k.sz + j)) = some u) ∧ wf b := by
      intro i hi
      have h1 := he i hi
      rw [List.getElem?_eq_getElem (by omega)] at h1
      obtain ⟨c, h2, h3⟩ := Option.bind_eq_some_iff.1 h1
      obtain ⟨b, hk, hw⟩ := h.get enc w base spare held m c _ h3
      obtain ⟨_, hcl, hcell⟩ := World.cells?_some h2
      have hsz := k.K_len hk
      refine ⟨b, ⟨c, hsz, hk, fun j u hu => ?_⟩, hw⟩
      have hj := (List.getElem?_eq_some_iff.1 hu).1
      have h4 := hcell j (by omega)
      have ha : (a.add (i * k.sz)).add j = a.add (i * k.sz + j) := by
        unfold Addr.add
        by_cases h1 : i * k.sz = 0 <;> by_cases h2 : j = 0 <;> simp [h1, h2, Nat.add_assoc]
      rw [h.sz, ha] at h4
      exact h4.trans hu
    obtain ⟨xs, hxl, hxs⟩ := chosen len one
    refine ⟨xs, ⟨some a, cap, by rw [hxl], by omega, rfl, by rw [hxl]; simp only [maxLen] at hm; omega, fun _ => ⟨a, rfl, fun j p hp => (hxs j p hp).1⟩⟩, by rw [hxl]; simp only [maxLen] at hm; omega, fun x hx => ?_⟩
    obtain ⟨i, hi, rfl⟩ := List.getElem_of_mem hx
    exact (hxs i _ (List.getElem?_eq_getElem hi)).2

/-- The fields from offset o on. -/
structure OpnF (P : Program) (fs : List Field) (o : Nat) {α : Type} (k : Kd α) (wf : α → Prop) : Prop where
  get : ∀ {H : Type} (enc : TypeId × Value → H) (w : World) (base : Nat) (spare : Nat → Bool) (held : Bool) (n : Nat) (cs : List Value), cs.length = o + k.sz →
    (∀ f ∈ fs, ∃ y, DataW.trod enc P w base spare held n f.type ((cs.drop f.offset).take (P.cellsOf f.type)) = some y) → ∃ a, k.K w a (cs.drop o) ∧ wf a

theorem OpnF.one {P : Program} {f : Field} {o : Nat} {α : Type} {k : Kd α} {wf : α → Prop} (ho : f.offset = o) (h : Opn P f.type k wf) : OpnF P [f] o k wf := by
  refine ⟨fun enc w base spare held n cs hl hf => ?_⟩
  obtain ⟨y, hy⟩ := hf f (by simp)
  obtain ⟨a, hk, hw⟩ := h.get enc w base spare held n _ y hy
  refine ⟨a, ?_, hw⟩
  rw [ho, h.sz, List.take_of_length_le (by rw [List.length_drop]; omega)] at hk
  exact hk

theorem OpnF.cons {P : Program} {f : Field} {fs : List Field} {o o' : Nat} {α β : Type} {k1 : Kd α} {k2 : Kd β} {wf1 : α → Prop} {wf2 : β → Prop} (ho : f.offset = o) (h : Opn P f.type k1 wf1) (ho' : o' = o + k1.sz) (h2 : OpnF P fs o' k2 wf2) : OpnF P (f :: fs) o (Kd.pair k1 k2) (fun x => wf1 x.1 ∧ wf2 x.2) := by
  refine ⟨fun enc w base spare held n cs hl hf => ?_⟩
  have hl' : cs.length = o + (k1.sz + k2.sz) := hl
  obtain ⟨y, hy⟩ := hf f (by simp)
  obtain ⟨a, hk, hw⟩ := h.get enc w base spare held n _ y hy
  obtain ⟨b, hk2, hw2⟩ := h2.get enc w base spare held n cs (by omega) (fun g hg => hf g (by simp [hg]))
  refine ⟨(a, b), ⟨_, _, ?_, hk, hk2⟩, hw, hw2⟩
  rw [ho, h.sz, ho']
  conv => lhs; rw [← List.take_append_drop k1.sz (cs.drop o)]
  rw [List.drop_drop]

theorem Opn.struct {P : Program} {t : TypeId} {fs : List Field} {α : Type} {k : Kd α} {wf : α → Prop} (ht : P.underlying t = some (.struct fs.toArray)) (hc : P.cellsOf t = k.sz) (h : OpnF P fs 0 k wf) : Opn P t k wf := by
  refine ⟨hc, fun enc w base spare held n cs x hx => ?_⟩
  obtain ⟨xs, m, _, _, hl, hxl, hf⟩ := DataW.trod_struct ht hx
  obtain ⟨a, hk, hw⟩ := h.get enc w base spare held m cs (by rw [hl, hc]; omega) (fun f hf' => by
    obtain ⟨i, hi, rfl⟩ := List.getElem_of_mem hf'
    have h1 := hf i _ (by rw [List.getElem?_toArray]; exact List.getElem?_eq_getElem hi)
    have h2 : i < xs.length := by rw [hxl]; simpa using hi
    rw [List.getElem?_eq_getElem h2] at h1
    exact ⟨_, h1⟩)
  exact ⟨a, by simpa using hk, hw⟩

/-- An argument of a struct type: its cells. -/
theorem struct_arg {H : Type} {enc : TypeId × Value → H} {P : Program} {W : World} {r : Reach} {base b : Nat} {spare : Nat → Bool} {held : Bool} {t : TypeId} {fs : Array Field} {α : Type} {k : Kd α} {wf : α → Prop} {v : Value} {d : DataW H} {p : List MemPlace}
    (ht : P.underlying t = some (.struct fs)) (ho : Opn P t k wf) (hv : Value.okWide P W r base t v) (h : DataW.Trod enc P W b spare held t v d p) : ∃ cs a, v = .agg cs ∧ k.K W a cs.toList ∧ wf a := by
  obtain ⟨cs, rfl, _⟩ := okWide_struct ht hv
  obtain ⟨n, hn⟩ := h
  obtain ⟨a, hk, hw⟩ := ho.get enc W b spare held n _ _ hn
  exact ⟨cs, a, rfl, by simpa [Value.cells] using hk, hw⟩
/-- An argument of a slice type. -/
theorem slice_arg {H : Type} {enc : TypeId × Value → H} {P : Program} {W : World} {r : Reach} {base b : Nat} {spare : Nat → Bool} {held : Bool} {t e : TypeId} {α : Type} {k : Kd α} {wf : List α → Prop} {v : Value} {d : DataW H} {p : List MemPlace}
    (ht : P.underlying t = some (.slice e)) (ho : Opn P t (Kd.slice e k) wf) (hv : Value.okWide P W r base t v) (h : DataW.Trod enc P W b spare held t v d p) : ∃ A c xs, v = .slice A xs.length c ∧ xs.length ≤ c ∧ k.C W A xs.length xs ∧ wf xs := by
  obtain ⟨a0, len0, cap0, rfl⟩ := okWide_slice ht hv
  obtain ⟨n, hn⟩ := h
  obtain ⟨a, ⟨A, c, hcs, hl, hC⟩, hw⟩ := ho.get enc W b spare held n _ _ hn
  exact ⟨A, c, a, by simpa [Value.cells] using hcs, hl, hC, hw⟩
end Go.Proofs.YtfhcnnkeokjfpaaDoor.Opn
