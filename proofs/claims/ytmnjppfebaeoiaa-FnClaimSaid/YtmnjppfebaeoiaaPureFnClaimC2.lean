/- Claimed blocks were free, are allocated afterwards, and are as many as requested or as there was room for; releasing them one by one in any order restores the word. Conditions: none. -/
import Derived.Test.YtmnjppfebaeoiaaClaimOfC2
import Derived.Test.YtmnjppfebaeoiaaRelPureC2
import Derived.Test.YtmnjppfebaeoiaaDrawCtlC2
import Derived.Test.YtmnjppfebaeoiaaPC2x3
import Derived.Test.YtmnjppfebaeoiaaPC2x4
import Derived.Test.YtmnjppfebaeoiaaPC2x5
import Derived.Test.YtmnjppfebaeoiaaPC2x6
set_option linter.unusedVariables false
set_option linter.unusedSimpArgs false
namespace Go.Proofs.Ytmnjppfebaeoiaa.Pure
open Go.RowKit Go.Proofs.Ytmnjppfebaeoiaa.Base Go.Proofs.Ytmnjppfebaeoiaa.PC2 Go.Proofs.YtmnjppfebaeoiaaW.PrintWords Go.Proofs.YtmnjppfebaeoiaaW.PrintLast

/-! ### the draws -/
theorem class_ok {l : List Int} (hl : Bytes l) {B a s : Int} (h : Cur B a s) (hB : B ≤ 1000000000000000000) (x : Int) (hx : 0 ≤ x ∧ x ≤ 4294967295) (k : Nat) (hk : 100 < k) :
    ∃ r a' s', spec_l01Cur_classFor.f (k + 1) l a s x = some (r, a', s') ∧ Cur (B + 20) a' s' ∧ -9223372036854775808 ≤ r ∧ r ≤ 9223372036854775807 := by
  unfold spec_l01Cur_classFor.f
  rw [spec_ctlRead x hx.1 hx.2 _ (by omega), Option.bind_some]
  have hcl := ctlRead_class x
  have plain : ∀ (a s x2 x3 x4 x5 : Int), Cur (B + 1) a s → ∃ r a' s', spec_l01Cur_classFor.j0 (k + 1) false l a s x2 x3 x4 x5 = some (r, a', s') ∧ Cur (B + 20) a' s' ∧ -9223372036854775808 ≤ r ∧ r ≤ 9223372036854775807 := by
    intro a s x2 x3 x4 x5 kk
    rw [spec_l01Cur_classFor.j0, if_neg (by decide)]
    obtain ⟨r1, b1, u1, f1, g1, p1, p2, _⟩ := pick_ok hl kk (by omega) 5 (by omega)
    rw [f1, Option.bind_some]
    obtain ⟨r2, b2, u2, f2, g2, p3, p4, _⟩ := pick_ok hl g1 (by omega) 5 (by omega)
    rw [f2, Option.bind_some]
    obtain ⟨r3, b3, u3, f3, g3, p5⟩ := raw_ok hl g2 (by omega)
    rw [f3, Option.bind_some, Option.bind_some]
    obtain ⟨r4, b4, u4, f4, g4, p6, p7, _⟩ := pick_ok hl g3 (by omega) 4 (by omega)
    rw [f4, Option.bind_some]
    have p2 := p2 (by omega)
    have p4 := p4 (by omega)
    have p7 := p7 (by omega)
    try dsimp only
    rw [if_pos p6, if_pos (by simpa using p7)]
    have hm := rd_mem (xs := [r1, r2, 5, r3]) p6 (by simpa using p7)
    refine ⟨_, _, _, rfl, g4.mono (by omega), ?_⟩
    generalize rd [r1, r2, 5, r3] r4 = z at hm ⊢
    simp only [List.mem_cons, List.not_mem_nil, or_false] at hm
    omega
  try dsimp only
  by_cases c1 : (ctlRead x).2.2.2.2 = true
  · rw [if_pos c1]
    obtain ⟨q, a2, s2, e2, k2⟩ := once_ok hl h (by omega) 2 (by omega)
    rw [e2, Option.bind_some]
    try dsimp only
    cases q with
    | false => exact plain _ _ _ _ _ _ k2
    | true =>
      rw [spec_l01Cur_classFor.j0, if_pos rfl]
      exact ⟨_, _, _, rfl, k2.mono (by omega), by omega, by omega⟩
  · rw [if_neg c1]
    exact plain _ _ _ _ _ _ (h.mono (by omega))
theorem drawnC {l : List Int} (hl : Bytes l) (k : Nat) (hk : 120 < k) : ∃ x c n, spec_DrawClaim.f (k + 1) l = some (x, c, n) ∧ (0 ≤ x ∧ x ≤ 4294967295) ∧ -9223372036854775808 ≤ n ∧ n ≤ 9223372036854775807 := by
  unfold spec_DrawClaim.f
  obtain ⟨s, e0, k0⟩ := open_ok hl
  rw [e0, Option.bind_some]
  obtain ⟨x, a1, s1, e1, k1, hx⟩ := ctlWord_ok hl k0 (by omega) (k + 1) (by omega)
  try dsimp only
  rw [e1, Option.bind_some]
  obtain ⟨c, a2, s2, e2, k2, hc⟩ := class_ok hl k1 (by omega) x hx k (by omega)
  try dsimp only
  rw [e2, Option.bind_some]
  obtain ⟨r1, b1, u1, f1, g1, p1, p2, _⟩ := pick_ok hl k2 (by omega) 8 (by omega)
  try dsimp only
  rw [f1, Option.bind_some]
  obtain ⟨r2, b2, u2, f2, g2, p3, p4, _⟩ := pick_ok hl g1 (by omega) 20 (by omega)
  try dsimp only
  rw [f2, Option.bind_some]
  obtain ⟨r3, b3, u3, f3, g3, p5⟩ := raw_ok hl g2 (by omega)
  try dsimp only
  rw [f3, Option.bind_some, Option.bind_some]
  obtain ⟨r4, b4, u4, f4, g4, p6, p7, _⟩ := pick_ok hl g3 (by omega) 3 (by omega)
  try dsimp only
  rw [f4, Option.bind_some]
  have p2 := p2 (by omega)
  have p4 := p4 (by omega)
  have p7 := p7 (by omega)
  try dsimp only
  rw [if_pos p6, if_pos (by simpa using p7), w64 (n := 1 + r1) (by omega) (by omega)]
  have hm := rd_mem (xs := [1 + r1, r2, r3]) p6 (by simpa using p7)
  refine ⟨_, _, _, rfl, hx, ?_⟩
  generalize rd [1 + r1, r2, r3] r4 = z at hm ⊢
  simp only [List.mem_cons, List.not_mem_nil, or_false] at hm
  omega
theorem pick_law {l : List Int} (hl : Bytes l) (n : Int) (hn : 1 ≤ n ∧ n ≤ 1000) (m : Nat) : ∃ r, laws_pick.f (m + 6) l n n = some r ∧ 0 ≤ r ∧ r < n := by
  obtain ⟨hlen, hby⟩ := hl
  unfold laws_pick.f
  by_cases c : (l.length : Int) = 0
  · rw [if_pos c, laws_pick.j0, if_pos rfl]
    exact ⟨0, rfl, by omega, by omega⟩
  · rw [if_neg c, laws_pick.j0]
    by_cases c2 : n < 2
    · rw [if_pos (decide_eq_true c2)]
      exact ⟨0, rfl, by omega, by omega⟩
    · rw [if_neg (by simpa using c2)]
      have step : ∀ (k : Nat) (x i : Int), 0 ≤ i → i < 3 → 0 ≤ x → x ≤ 1000000 → ∃ x', 0 ≤ x' ∧ x' ≤ 31 * x + 255 ∧ laws_pick.l0 (k + 1) l n n x i = laws_pick.l0 k l n n x' (i + 1) := by
        intro k x i h0 h3 hx hx'
        have hm0 : 0 ≤ (n + i) % (l.length : Int) := Int.emod_nonneg _ (by omega)
        have hm1 : (n + i) % (l.length : Int) < l.length := Int.emod_lt_of_pos _ (by omega)
        have hr := hby _ (rd_mem hm0 hm1)
        refine ⟨31 * x + rd l ((n + i) % (l.length : Int)), by omega, by omega, ?_⟩
        rw [laws_pick.l0, if_pos h3, if_neg c, w64 (n := n + i) (by omega) (by omega), Int.tmod_eq_emod_of_nonneg (show 0 ≤ n + i by omega), if_pos hm0, if_pos hm1, w64 (n := 31 * x) (by omega) (by omega), w64 (n := rd l ((n + i) % (l.length : Int))) (by omega) (by omega), w64 (n := 31 * x + _) (by omega) (by omega), w64 (n := i + 1) (by omega) (by omega)]
      obtain ⟨x1, a1, b1, e1⟩ := step (m + 4) 0 0 (by omega) (by omega) (by omega) (by omega)
      obtain ⟨x2, a2, b2, e2⟩ := step (m + 3) x1 (0 + 1) (by omega) (by omega) (by omega) (by omega)
      obtain ⟨x3, a3, b3, e3⟩ := step (m + 2) x2 (0 + 1 + 1) (by omega) (by omega) (by omega) (by omega)
      refine ⟨(x3 + n) % n, ?_, Int.emod_nonneg _ (by omega), Int.emod_lt_of_pos _ (by omega)⟩
      rw [show m + 5 = m + 4 + 1 by omega, e1, show m + 4 = m + 3 + 1 by omega, e2, show m + 3 = m + 2 + 1 by omega, e3, laws_pick.l0, if_neg (by omega), if_neg (by omega), w64 (by omega) (by omega), Int.tmod_eq_emod_of_nonneg (by omega)]

/-! ### counting -/
theorem pop_comp : ∀ (N x : Nat), x < 2 ^ N → pop N x + pop N (2 ^ N - 1 - x) = N
  | 0, x, h => rfl
  | N + 1, x, h => by
    rw [Nat.pow_succ] at h ⊢
    have hp := Nat.two_pow_pos N
    have ih := pop_comp N (x / 2) (by omega)
    rw [pop, pop, show (2 ^ N * 2 - 1 - x) / 2 = 2 ^ N - 1 - x / 2 by omega]
    omega
theorem pop_zero : ∀ N, pop N 0 = 0
  | 0 => rfl
  | N + 1 => by rw [pop]; simp [pop_zero N]
theorem pop_low {p x : Nat} (hp : p ≤ 32) (hx : x < 2 ^ p) : pop 32 x = pop p x := by
  have := pop_add p (32 - p) x
  rw [show p + (32 - p) = 32 by omega, Nat.div_eq_of_lt hx, pop_zero] at this
  exact this
theorem free_len {p m : Nat} (hp : pg p) (hm : m < 2 ^ p) : (free p m).length = p - pop 32 m := by
  have hl := pg_le hp
  have h1 := pop_comp p m hm
  have h2 : (free p m).length = pop 32 (2 ^ p - 1 - m) := len_ons 32 0 _
  rw [h2, pop_low (p := p) (by omega) (by omega), pop_low (p := p) (by omega) hm]
  omega
theorem pop_or : ∀ (N a b : Nat), a ||| b = a + b → pop N (a + b) = pop N a + pop N b
  | 0, _, _, _ => rfl
  | N + 1, a, b, h => by
    have hs := lor_split a b
    have hd : a / 2 ||| b / 2 = a / 2 + b / 2 ∧ ¬ (a % 2 = 1 ∧ b % 2 = 1) := by
      rcases Nat.mod_two_eq_zero_or_one a with e | e <;> rcases Nat.mod_two_eq_zero_or_one b with f | f <;> rw [e, f] at hs <;> simp at hs <;> omega
    have ih := pop_or N (a / 2) (b / 2) hd.1
    rw [pop, pop, pop, show (a + b) / 2 = a / 2 + b / 2 by omega, ih]
    omega
theorem zs_bit : ∀ (N i m : Nat) (b : Nat), (b : Int) ∈ zs i (bitsN N m) → i ≤ b ∧ m / 2 ^ (b - i) % 2 = 0
  | 0, i, m, b, h => by simp [bitsN, zs] at h
  | N + 1, i, m, b, h => by
    rw [bitsN, zs] at h
    rcases List.mem_append.1 h with h | h
    · split at h
      · rename_i e
        have : b = i := by simp at h; omega
        subst this
        refine ⟨Nat.le_refl _, ?_⟩
        rw [Nat.sub_self, Nat.pow_zero, Nat.div_one]
        omega
      · simp at h
    · have ih := zs_bit N (i + 1) (m / 2) b h
      refine ⟨by omega, ?_⟩
      rw [show b - i = (b - (i + 1)) + 1 by omega, Nat.pow_succ, Nat.mul_comm, ← Nat.div_div_eq_div_mul]
      exact ih.2
theorem sum_bit : ∀ (l : List Int) (lo hi : Nat), inc lo hi l → ∀ b : Nat, (b : Int) ∈ l → sumL l / 2 ^ b % 2 = 1 ∧ 2 ^ b ≤ sumL l
  | [], _, _, _, b, h => by simp at h
  | x :: r, lo, hi, hh, b, h => by
    obtain ⟨h1, h2, h3⟩ := hh
    obtain ⟨i, rfl⟩ := Int.eq_ofNat_of_zero_le (show 0 ≤ x by omega)
    simp only [Int.toNat_natCast] at h3
    rw [sumL, Int.toNat_natCast]
    have hp := Nat.two_pow_pos b
    rcases List.mem_cons.1 h with e | e
    · have : b = i := by omega
      subst this
      obtain ⟨q, hq⟩ := sum_div r (b + 1) _ h3
      refine ⟨?_, by omega⟩
      rw [hq, Nat.pow_succ, Nat.mul_assoc, show 2 ^ b + 2 ^ b * (2 * q) = 2 ^ b * (1 + 2 * q) by rw [Nat.mul_add, Nat.mul_one], Nat.mul_div_cancel_left _ hp]
      omega
    · have ih := sum_bit r _ _ h3 b e
      have hib : i + 1 ≤ b := by
        have above : ∀ (r : List Int) (lo hi : Nat), inc lo hi r → ∀ b ∈ r, (lo : Int) ≤ b := by
          intro r
          induction r with
          | nil => intro lo hi _ b hb; simp at hb
          | cons x r ih =>
            intro lo hi hh b hb
            rcases List.mem_cons.1 hb with rfl | hb
            · exact hh.1
            · have := ih _ _ hh.2.2 b hb; have := hh.1; omega
        have := above r _ _ h3 _ e
        omega
      refine ⟨?_, Nat.le_trans ih.2 (Nat.le_add_left _ _)⟩
      obtain ⟨q, hq⟩ := sum_div r (i + 1) _ h3
      obtain ⟨d, rfl⟩ : ∃ d, b = (i + 1) + d := ⟨b - (i + 1), by omega⟩
      have e1 : (2 ^ i + sumL r) / 2 ^ (i + 1 + d) = sumL r / 2 ^ (i + 1 + d) := by
        rw [Nat.pow_add, ← Nat.div_div_eq_div_mul, ← Nat.div_div_eq_div_mul]
        congr 1
        rw [hq, Nat.add_comm, Nat.mul_add_div (Nat.two_pow_pos _), Nat.div_eq_of_lt (Nat.pow_lt_pow_right (by omega) (by omega)), Nat.mul_div_cancel_left _ (Nat.two_pow_pos _), Nat.add_zero]
      rw [e1]
      exact ih.1
theorem or_bit {a b n : Nat} (h : a ||| b = a + b) (hb : b / 2 ^ n % 2 = 1) : (a + b) / 2 ^ n % 2 = 1 := by
  rw [← h, Nat.or_div_two_pow, Nat.or_mod_two_eq_one]
  exact .inr hb
theorem inc_erase : ∀ (a : List Int) (b : Int) (r : List Int) (lo hi : Nat), inc lo hi (a ++ b :: r) → inc lo hi (a ++ r)
  | [], b, r, lo, hi, h => inc_mono h.2.2 (by have := h.1; omega)
  | x :: a, b, r, lo, hi, h => ⟨h.1, h.2.1, inc_erase a b r _ hi h.2.2⟩

/-! ### the word -/
theorem x_word {x : Int} (h0 : 0 ≤ x) (h1 : x ≤ 4294967295) (h : (ctlRead x).2.2.2.2 = true) : x = word (ctlRead x).1 (ctlRead x).2.1 (ctlRead x).2.2.1 (ctlRead x).2.2.2.1 := by
  unfold ctlRead at h ⊢
  split at h
  · rename_i h'
    rw [if_pos h']
    unfold word
    dsimp only
    omega
  · cases h
theorem claim_facts {x c : Int} (h0 : 0 ≤ x) (h1 : x ≤ 4294967295) (h : room x c ≠ 0) : ∃ p m : Nat, pg p ∧ perPage c = (p : Int) ∧ pageMax c = ((2 ^ p : Nat) : Int) ∧ (0 ≤ c ∧ c ≤ 4) ∧ m < 2 ^ p ∧ (ctlRead x).2.2.1 = (m : Int) ∧ (ctlRead x = (1, c, (m : Int), 0, true) ∧ x = word 1 c (m : Int) 0 ∧ m ≠ 0 ∨ ctlRead x = (0, 0, 0, 0, true) ∧ x = 0 ∧ m = 0) ∧ room x c = (p : Int) - (pop 32 m : Nat) := by
  obtain ⟨ho, hc, p, m, hp, e1, e2, em, hm, hf⟩ := room_facts h
  have hx := x_word h0 h1 ho
  have hok := ctlRead_ok ho
  refine ⟨p, m, hp, e1, e2, hc, hm, em, ?_⟩
  unfold room at h ⊢
  rw [if_pos ho] at h ⊢
  by_cases c1 : (ctlRead x).1 = 0
  · unfold ctlOk at hok
    rw [if_pos (.inl c1), decide_eq_true_eq] at hok
    have hz : m = 0 := by have := hok.2.1; omega
    subst hz
    rw [if_pos c1, e1]
    refine ⟨.inr ⟨?_, ?_, rfl⟩, by simp [pop_zero]⟩
    · generalize ctlRead x = r at *
      obtain ⟨r1, r2, r3, r4, r5⟩ := r
      dsimp only at *
      obtain ⟨q1, q2, q3⟩ := hok
      subst c1 q1 q2 q3 ho
      rfl
    · rw [hx, c1, hok.1, hok.2.1, hok.2.2]
      rfl
  · rw [if_neg c1] at h ⊢
    by_cases c2 : (ctlRead x).1 = 1 ∧ (ctlRead x).2.1 = c
    · rw [if_pos c2, e1, em, Int.toNat_natCast]
      have hpg := ctl_page ho c2.1
      have hm0 : m ≠ 0 := by
        have := hpg.2.2
        unfold ctlOk at this
        rw [if_neg (by omega), if_pos rfl, decide_eq_true_eq] at this
        omega
      refine ⟨.inl ⟨?_, ?_, hm0⟩, rfl⟩
      · obtain ⟨q1, q2, q3⟩ := hpg
        generalize ctlRead x = r at *
        obtain ⟨r1, r2, r3, r4, r5⟩ := r
        dsimp only at *
        obtain ⟨c2, c3⟩ := c2
        subst c2 c3 em q2 ho
        rfl
      · rw [hx, c2.1, c2.2, em, hpg.2.1]
    · rw [if_neg c2] at h
      exact absurd rfl h
theorem p_sz {c : Int} {p : Nat} (hc : 0 ≤ c ∧ c ≤ 4) (hp : perPage c = (p : Int)) (b : Int) (hb : 0 ≤ b ∧ b < p) : 0 ≤ b * sz c ∧ b * sz c + sz c ≤ 16 ∧ b * sz c / sz c = b ∧ (b * sz c + sz c - 1) / sz c = b := by
  rcases class_cases hc with rfl | rfl | rfl | rfl | rfl <;> simp [perPage] at hp <;> simp only [sz] <;> simp <;> omega
/-- The word of a page's places. -/
def zw (c : Int) (m : Nat) (L : List Int) : Int := if m + sumL L = 0 then 0 else word 1 c ((m + sumL L : Nat) : Int) 0
theorem zw_read {c : Int} {p m : Nat} {L : List Int} (hc : 0 ≤ c ∧ c ≤ 4) (hpm : pageMax c = ((2 ^ p : Nat) : Int)) (hlt : m + sumL L < 2 ^ p) (h : m + sumL L ≠ 0) : ctlRead (zw c m L) = (1, c, ((m + sumL L : Nat) : Int), 0, true) ∧ 0 ≤ zw c m L ∧ zw c m L ≤ 4294967295 := by
  have hok : ctlOk 1 c ((m + sumL L : Nat) : Int) 0 = true := by
    unfold ctlOk
    rw [if_neg (by omega), if_pos rfl, decide_eq_true_eq, hpm]
    refine ⟨hc.1, hc.2, ?_, ?_, rfl⟩ <;> omega
  unfold zw
  rw [if_neg h]
  exact ⟨ctlRead_word 1 c _ 0 (by omega) hok, word_range 1 c _ 0 (by omega) hok⟩
theorem blk_off {z c off : Int} {q n : Nat} (h0 : 0 ≤ z) (h1 : z ≤ 4294967295) (hc : 0 ≤ c ∧ c ≤ 4) (hz : ctlRead z = (1, c, (q : Int), 0, true)) (hq : q < 65536) (ho : 0 ≤ off ∧ off ≤ 15) (hn : off / sz c = (n : Int)) (hn16 : n < 16) (hbit : q / 2 ^ n % 2 = 0) (k : Nat) (hk : 1 < k) : impl_BlockAt.f k z off = some (0, 0, false) := by
  unfold impl_BlockAt.f
  rw [impl_ctlRead z h0 h1 _ hk, hz, Option.bind_some]
  dsimp only
  rw [if_pos rfl, if_pos rfl, within_ctl, Option.bind_some, decide_eq_true ho, if_pos rfl, if_pos hc.1, shr_sz hc, hn, if_pos (by omega), bit_at hq hn16, hbit, if_pos (by decide)]
theorem blk_on {z c off : Int} {q n : Nat} (h0 : 0 ≤ z) (h1 : z ≤ 4294967295) (hc : 0 ≤ c ∧ c ≤ 4) (hz : ctlRead z = (1, c, (q : Int), 0, true)) (hq : q < 65536) (ho : 0 ≤ off ∧ off ≤ 15) (hn : off / sz c = (n : Int)) (hn16 : n < 16) (hbit : q / 2 ^ n % 2 = 1) (k : Nat) (hk : 1 < k) : impl_BlockAt.f k z off = some ((n : Int) * sz c, sz c, true) := by
  unfold impl_BlockAt.f
  rw [impl_ctlRead z h0 h1 _ hk, hz, Option.bind_some]
  dsimp only
  rw [if_pos rfl, if_pos rfl, within_ctl, Option.bind_some, decide_eq_true ho, if_pos rfl, if_pos hc.1, shr_sz hc, hn, if_pos (by omega), bit_at hq hn16, hbit, if_neg (by decide), shl_sz hc (by omega), shl_sz hc (by omega), Int.one_mul]
theorem rel_step {c : Int} {p m : Nat} {a r : List Int} {b : Nat} (hp : pg p) (hpp : perPage c = (p : Int)) (hpm : pageMax c = ((2 ^ p : Nat) : Int)) (hc : 0 ≤ c ∧ c ≤ 4) (hm : m < 2 ^ p) (hi : inc 0 p (a ++ (b : Int) :: r)) (hz : ∀ x ∈ a ++ (b : Int) :: r, x ∈ zs 0 (bitsN p m)) (k : Nat) (hk : 1 < k) :
    impl_Release.f k (zw c m (a ++ (b : Int) :: r)) ((b : Int) * sz c) = some (zw c m (a ++ r), sz c, true) := by
  have hl := pg_le hp
  have hor := or_free p 0 m _ (sumL (a ++ (b : Int) :: r)) (by simpa using hi) hz (by simp)
  have hs := sum_bound _ 0 p (by omega) hi
  have hlt : m + sumL (a ++ (b : Int) :: r) < 2 ^ p := by rw [← hor]; exact Nat.or_lt_two_pow hm (by omega)
  have hbit := sum_bit _ 0 p hi b (by simp)
  have hbit2 := or_bit (n := b) hor hbit.1
  have hp0 := Nat.two_pow_pos b
  have hne : m + sumL (a ++ (b : Int) :: r) ≠ 0 := by omega
  have hR := zw_read hc hpm hlt hne
  have hbp := (inc_split a 0 p b r hi).2.1
  have hps := p_sz hc hpp (b : Int) (by omega)
  have hszp := sz_pos c
  have hsum : m + sumL (a ++ (b : Int) :: r) - 2 ^ b = m + sumL (a ++ r) := by
    rw [sum_append, sum_append, sumL, Int.toNat_natCast]
    omega
  rw [impl_release _ _ hR.2.1 hR.2.2 k hk]
  unfold release relOf
  rw [hR.1]
  dsimp only
  rw [if_pos ⟨rfl, rfl⟩, hps.2.2.1, Int.toNat_natCast, Int.toNat_natCast, if_pos ⟨by omega, rfl, hbit2⟩, hsum]
  rfl

/-! ### the law's loops -/
theorem rel_loop {code : List Int} (hcode : Bytes code) {x c : Int} {p m : Nat} (hp : pg p) (hpp : perPage c = (p : Int)) (hpm : pageMax c = ((2 ^ p : Nat) : Int)) (hc : 0 ≤ c ∧ c ≤ 4) (hm : m < 2 ^ p) (hx : x = if m = 0 then 0 else word 1 c (m : Int) 0) :
    ∀ (d : Nat) (L : List Int) (k : Nat), L.length = d → d + 20 < k → d ≤ 32 → inc 0 p L → (∀ b ∈ L, b ∈ zs 0 (bitsN p m)) → laws_FnClaim.l1 k code x c (L.map (fun b => b * sz c)) (zw c m L) = some true
  | 0, L, k, hd, hk, _, hi, hz => by
    obtain ⟨k, rfl⟩ : ∃ m, k = m + 1 := ⟨k - 1, by omega⟩
    have : L = [] := List.eq_nil_of_length_eq_zero hd
    subst this
    rw [laws_FnClaim.l1, if_neg (by simp)]
    unfold zw
    rw [sumL, Nat.add_zero, hx]
    simp
  | d + 1, L, k, hd, hk, hd32, hi, hz => by
    obtain ⟨k, rfl⟩ : ∃ m, k = m + 6 + 1 := ⟨k - 7, by omega⟩
    have hlen : ((L.map (fun b => b * sz c)).length : Int) = ((d + 1 : Nat) : Int) := by rw [List.length_map, hd]
    obtain ⟨r, e, hr0, hr1⟩ := pick_law hcode ((d + 1 : Nat) : Int) (by omega) k
    obtain ⟨i, rfl⟩ := Int.eq_ofNat_of_zero_le hr0
    have hiL : i < L.length := by omega
    have hsplit : L = L.take i ++ L[i] :: L.drop (i + 1) := by rw [← List.drop_eq_getElem_cons hiL, List.take_append_drop]
    have hb := inc_mem L 0 p hi L[i] (List.getElem_mem hiL)
    obtain ⟨b, hbe⟩ := Int.eq_ofNat_of_zero_le hb.1
    rw [hbe] at hsplit
    have hrd : rd (L.map (fun b => b * sz c)) (i : Int) = (b : Int) * sz c := by
      unfold rd
      rw [Int.toNat_natCast, List.getD_eq_getElem?_getD, List.getElem?_map, List.getElem?_eq_getElem hiL, hbe]
      rfl
    have hi' := hi
    have hz' := hz
    rw [hsplit] at hi' hz'
    have hstep := rel_step hp hpp hpm hc hm hi' hz' (k + 6) (by omega)
    rw [← hsplit] at hstep
    have hnext : (L.map (fun b => b * sz c)).take i ++ (L.map (fun b => b * sz c)).drop (i + 1) = (L.take i ++ L.drop (i + 1)).map (fun b => b * sz c) := by rw [List.map_append, List.map_take, List.map_drop]
    have hl2 : (L.take i ++ L.drop (i + 1)).length = d := by rw [List.length_append, List.length_take, List.length_drop]; omega
    have ih := rel_loop hcode hp hpp hpm hc hm hx d (L.take i ++ L.drop (i + 1)) (k + 6) hl2 (by omega) (by omega) (inc_erase _ _ _ _ _ hi') (fun b hb => by
      rcases List.mem_append.1 hb with hb | hb
      · exact hz b (List.mem_of_mem_take hb)
      · exact hz b (List.mem_of_mem_drop hb))
    have g1 : ([] : List Int).length + ((L.map (fun b => b * sz c)).take (i : Int).toNat).length < 17592186044416 := by rw [List.length_nil, List.length_take, List.length_map]; omega
    have g2 : (([] : List Int) ++ (L.map (fun b => b * sz c)).take (i : Int).toNat).length + ((L.map (fun b => b * sz c)).drop ((i + 1 : Nat) : Int).toNat).length < 17592186044416 := by rw [List.length_append, List.length_nil, List.length_take, List.length_drop, List.length_map]; omega
    rw [laws_FnClaim.l1, hlen, if_pos (by omega), e, Option.bind_some, if_pos hr0, if_pos hr1, hrd, hstep, Option.bind_some]
    dsimp only
    rw [if_pos rfl, impl_size c hc, Option.bind_some, if_pos rfl, Option.bind_some, if_pos (by omega), Option.bind_some, if_pos g1, Option.bind_some, w64 (n := (i : Int) + 1) (by omega) (by omega), show (i : Int) + 1 = ((i + 1 : Nat) : Int) by omega, if_pos (by omega), if_pos (by omega), Option.bind_some, if_pos g2, List.nil_append, Int.toNat_natCast, Int.toNat_natCast, hnext]
    exact ih
theorem blk_loop {code : List Int} (hcode : Bytes code) {x c : Int} {p m : Nat} (h0 : 0 ≤ x) (h1 : x ≤ 4294967295) (hp : pg p) (hpp : perPage c = (p : Int)) (hpm : pageMax c = ((2 ^ p : Nat) : Int)) (hc : 0 ≤ c ∧ c ≤ 4) (hm : m < 2 ^ p) (hst : ctlRead x = (1, c, (m : Int), 0, true) ∧ x = word 1 c (m : Int) 0 ∧ m ≠ 0 ∨ ctlRead x = (0, 0, 0, 0, true) ∧ x = 0 ∧ m = 0)
    (L : List Int) (hi : inc 0 p L) (hz : ∀ b ∈ L, b ∈ zs 0 (bitsN p m)) (hL : L.length ≤ 32) :
    ∀ (d i k : Nat), i + d = L.length → d + 60 < k → laws_FnClaim.l0 k code x c (zw c m L) (L.map (fun b => b * sz c)) (zw c m L) (i : Int) = some true
  | 0, i, k, hd, hk => by
    obtain ⟨k, rfl⟩ : ∃ m, k = m + 1 := ⟨k - 1, by omega⟩
    rw [laws_FnClaim.l0, if_neg (by rw [List.length_map]; omega)]
    refine rel_loop hcode hp hpp hpm hc hm ?_ L.length L k rfl (by omega) hL hi hz
    rcases hst with ⟨_, e, hne⟩ | ⟨_, e, hne⟩
    · rw [if_neg hne]; exact e
    · rw [if_pos hne]; exact e
  | d + 1, i, k, hd, hk => by
    obtain ⟨k, rfl⟩ : ∃ m, k = m + 1 := ⟨k - 1, by omega⟩
    have hl := pg_le hp
    have hiL : i < L.length := by omega
    have hb := inc_mem L 0 p hi L[i] (List.getElem_mem hiL)
    obtain ⟨b, hbe⟩ := Int.eq_ofNat_of_zero_le hb.1
    have hmem : (b : Int) ∈ L := by rw [← hbe]; exact List.getElem_mem hiL
    have hrd : rd (L.map (fun b => b * sz c)) (i : Int) = (b : Int) * sz c := by
      unfold rd
      rw [Int.toNat_natCast, List.getD_eq_getElem?_getD, List.getElem?_map, List.getElem?_eq_getElem hiL, hbe]
      rfl
    have hor := or_free p 0 m L (sumL L) (by simpa using hi) hz (by simp)
    have hs := sum_bound _ 0 p (by omega) hi
    have hlt : m + sumL L < 2 ^ p := by rw [← hor]; exact Nat.or_lt_two_pow hm (by omega)
    have hbit := sum_bit _ 0 p hi b hmem
    have hbit2 := or_bit (n := b) hor hbit.1
    have hp0 := Nat.two_pow_pos b
    have hne : m + sumL L ≠ 0 := by omega
    have hR := zw_read hc hpm hlt hne
    have hps := p_sz hc hpp (b : Int) (by omega)
    have hszp := sz_pos c
    have hz0 := (zs_bit p 0 m b (hz _ hmem)).2
    rw [Nat.sub_zero] at hz0
    have hA : impl_BlockAt.f k x ((b : Int) * sz c) = some (0, 0, false) := by
      rcases hst with ⟨e, _, _⟩ | ⟨e, _, _⟩
      · exact blk_off h0 h1 hc e (by omega) (by omega) hps.2.2.1 (by omega) hz0 k (by omega)
      · unfold impl_BlockAt.f
        rw [impl_ctlRead x h0 h1 _ (by omega), e, Option.bind_some]
        dsimp only
        rw [if_pos rfl, if_neg (by decide)]
    have hB := blk_on hR.2.1 hR.2.2 hc hR.1 (by omega) (off := (b : Int) * sz c + sz c - 1) (by omega) hps.2.2.2 (by omega) hbit2 k (by omega)
    have ih := blk_loop hcode h0 h1 hp hpp hpm hc hm hst L hi hz hL d (i + 1) k (by omega) (by omega)
    rw [laws_FnClaim.l0, if_pos (by rw [List.length_map]; omega), if_pos (by omega), hrd, hA, Option.bind_some, impl_size c hc, Option.bind_some, w64 (n := (b : Int) * sz c + sz c) (by omega) (by omega), w64 (n := (b : Int) * sz c + sz c - 1) (by omega) (by omega), hB, Option.bind_some]
    dsimp only
    rw [if_neg (by decide), if_pos rfl, if_pos rfl, Option.bind_some, if_pos rfl, w64 (n := (i : Int) + 1) (by omega) (by omega), show (i : Int) + 1 = ((i + 1 : Nat) : Int) by omega]
    exact ih

theorem taken_on {y : Int} (h0 : 0 ≤ y) (h1 : y ≤ 4294967295) {b : Int} {m : Nat} (hb : 0 ≤ b ∧ b ≤ 4) (hm : m < 65536) (h : ctlRead y = (1, b, (m : Int), 0, true)) (k : Nat) (hk : 1 < k) : impl_TakenWords.f k y = some ((pop 32 m : Nat) * sz b) := by
  obtain ⟨k, rfl⟩ : ∃ m, k = m + 1 := ⟨k - 1, by omega⟩
  have hp := pop32_le m
  unfold impl_TakenWords.f
  rw [impl_ctlRead y h0 h1 _ hk, h, Option.bind_some]
  dsimp only
  rw [if_pos rfl, impl_TakenWords.j0, if_pos (by decide), impl_ones m (by omega), Option.bind_some, if_pos hb.1, shl_sz hb (by omega)]
theorem taken_was {x c : Int} {m : Nat} (h0 : 0 ≤ x) (h1 : x ≤ 4294967295) (hc : 0 ≤ c ∧ c ≤ 4) (hm : m < 65536) (hst : ctlRead x = (1, c, (m : Int), 0, true) ∧ x = word 1 c (m : Int) 0 ∧ m ≠ 0 ∨ ctlRead x = (0, 0, 0, 0, true) ∧ x = 0 ∧ m = 0) (k : Nat) (hk : 100 < k) : spec_TakenWords.f k x = some ((pop 32 m : Nat) * sz c) := by
  obtain ⟨k, rfl⟩ : ∃ m, k = m + 1 := ⟨k - 1, by omega⟩
  have hp := pop32_le m
  have hmul : 0 ≤ ((pop 32 m : Nat) : Int) * sz c ∧ ((pop 32 m : Nat) : Int) * sz c ≤ 512 := by
    rcases class_cases hc with rfl | rfl | rfl | rfl | rfl <;> simp only [sz] <;> simp <;> omega
  unfold spec_TakenWords.f
  rw [spec_ctlRead x h0 h1 _ (by omega), Option.bind_some]
  rcases hst with ⟨e, _, _⟩ | ⟨e, _, e2⟩
  · rw [e]
    dsimp only
    rw [if_pos rfl, spec_TakenWords.j0, if_pos (by decide), spec_ones m (by omega) k (by omega), Option.bind_some, spec_size c hc k (by omega), Option.bind_some, w64 (by omega) (by omega)]
  · rw [e, e2, pop_zero]
    dsimp only
    rw [if_pos rfl, spec_TakenWords.j0, if_neg (by decide), if_pos rfl, if_neg (by decide)]
    simp
theorem law_true {code : List Int} (hcode : Bytes code) {x c n : Int} (h0 : 0 ≤ x) (h1 : x ≤ 4294967295) (hn : 1 ≤ n ∧ n ≤ 9223372036854775807) (hr : room x c ≠ 0) (k : Nat) (hk : 300 < k) :
    laws_FnClaim.j0 (k + 1) code x c n (word 1 c ((ctlRead x).2.2.1 + sumL (mine x c n)) 0) true (word 1 c ((ctlRead x).2.2.1 + sumL (mine x c n)) 0) ((mine x c n).map (fun b => b * sz c)) true false = some true := by
  obtain ⟨p, m, hp, hpp, hpm, hc, hm, em, hst, hroom⟩ := claim_facts h0 h1 hr
  have hl := pg_le hp
  obtain ⟨_, _, p', m', _, e1', _, em', _, hf⟩ := room_facts hr
  have hpe : p' = p := by omega
  have hme : m' = m := by omega
  subst hpe hme
  obtain ⟨M, hM⟩ : ∃ M, M = mine x c n := ⟨_, rfl⟩
  have hMf : M = (free p' m').take n.toNat := by rw [hM]; unfold mine; rw [hpp, em, Int.toNat_natCast, Int.toNat_natCast]
  have hi : inc 0 p' M := by rw [hMf]; exact inc_take _ (inc_free p' m' hp)
  have hz : ∀ b ∈ M, b ∈ zs 0 (bitsN p' m') := fun b hb => free_zs p' m' hp hm b (by rw [hMf] at hb; exact List.mem_of_mem_take hb)
  have hflen := free_len hp hm
  have hML : M.length = min n.toNat (p' - pop 32 m') := by rw [hMf, List.length_take, hflen]
  have hor := or_free p' 0 m' M (sumL M) (by simpa using hi) hz (by simp)
  have hs := sum_bound _ 0 p' (by omega) hi
  have hlt : m' + sumL M < 2 ^ p' := by rw [← hor]; exact Nat.or_lt_two_pow hm (by omega)
  have hp32 := pop32_le m'
  have hflen0 : (free p' m').length ≠ 0 := fun h => hf (List.eq_nil_of_length_eq_zero h)
  have hMne : M.length ≠ 0 := by omega
  have hpos : 0 < sumL M := by
    cases hM' : M with
    | nil => rw [hM'] at hMne; exact absurd rfl hMne
    | cons b r => rw [sumL]; have := Nat.two_pow_pos b.toNat; omega
  have hR := zw_read hc hpm hlt (by omega)
  have hy : word 1 c ((ctlRead x).2.2.1 + sumL M) 0 = zw c m' M := by
    unfold zw
    rw [if_neg (by omega), em, show (m' : Int) + (sumL M : Nat) = ((m' + sumL M : Nat) : Int) by omega]
  have hpS : pop 32 (sumL M) = M.length := by
    have := len_ons 32 0 (sumL M)
    have hb : ons 0 (bitsN 32 (sumL M)) = M := bitList_sum (inc_mono_hi (by omega) _ _ hi)
    rw [hb] at this
    exact this.symm
  have hpop := pop_or 32 m' (sumL M) hor
  rw [hpS] at hpop
  have hroomy : room (zw c m' M) c = (p' : Int) - (pop 32 (m' + sumL M) : Nat) := by
    unfold room
    rw [hR.1]
    dsimp only
    rw [if_pos rfl, if_neg (by decide), if_pos ⟨rfl, rfl⟩, Int.toNat_natCast, hpp]
  have hsz := sz_pos c
  have hmul : ∀ q : Nat, q ≤ 64 → 0 ≤ (q : Int) * sz c ∧ (q : Int) * sz c ≤ 1024 := by
    intro q hq
    rcases class_cases hc with rfl | rfl | rfl | rfl | rfl <;> simp only [sz] <;> simp <;> omega
  have hm1 := hmul (pop 32 m') (by omega)
  have hm2 := hmul M.length (by omega)
  have hdist : ((pop 32 (m' + sumL M) : Nat) : Int) * sz c = ((pop 32 m' : Nat) : Int) * sz c + (M.length : Int) * sz c := by
    rw [hpop, Int.natCast_add, Int.add_mul]
  rw [← hM, hy]
  obtain ⟨k, rfl⟩ : ∃ m, k = m + 1 := ⟨k - 1, by omega⟩
  have hlenc : (((M.map (fun b => b * sz c)).length : Nat) : Int) = (M.length : Int) := by rw [List.length_map]
  have hmn : (M.length : Int) = mn n (room x c) := by
    rw [hroom]
    unfold mn
    split <;> omega
  rw [laws_FnClaim.j0, if_neg (by decide), impl_room x c h0 h1 _ (by omega), Option.bind_some, hlenc, if_pos hmn, impl_room _ c hR.2.1 hR.2.2 _ (by omega), Option.bind_some, hroomy, hroom, w64 (n := (p' : Int) - (pop 32 m' : Nat) - (M.length : Int)) (by omega) (by omega), if_pos (by omega), taken_on hR.2.1 hR.2.2 hc (by omega) hR.1 _ (by omega), Option.bind_some, taken_was h0 h1 hc (by omega) hst _ (by omega), Option.bind_some, impl_size c hc, Option.bind_some, w64 (n := (M.length : Int) * sz c) (by omega) (by omega), w64 (by omega) (by omega), hdist, laws_FnClaim.j1, if_neg (by simp)]
  exact blk_loop hcode h0 h1 hp hpp hpm hc hm hst M hi hz (by omega) M.length 0 k (by omega) (by omega)
theorem same_self (l : List Int) (hn : l.length ≤ 1000) : ∀ (d i k : Nat), i + d = l.length → d < k → laws_same.l0 k l l (i : Int) = some true
  | 0, i, k, hd, hk => by
    obtain ⟨k, rfl⟩ : ∃ m, k = m + 1 := ⟨k - 1, by omega⟩
    rw [laws_same.l0, if_neg (by omega)]
  | d + 1, i, k, hd, hk => by
    obtain ⟨k, rfl⟩ : ∃ m, k = m + 1 := ⟨k - 1, by omega⟩
    rw [laws_same.l0, if_pos (by omega), if_pos (by omega), if_pos (by omega), if_pos rfl, w64 (by omega) (by omega), show (i : Int) + 1 = ((i + 1 : Nat) : Int) by omega]
    exact same_self l hn d (i + 1) k (by omega) (by omega)
theorem main (l : List Int) (hw : ∀ x ∈ l, (Lit.int .u8 x).wf = true) (m : Nat) (hm : 500 < m) : laws_FnClaim.f (m + 1) l = some true := by
  unfold laws_FnClaim.f
  rcases big_or hw with h | ⟨h, hb⟩
  · rw [h]; rfl
  rw [h, Option.bind_some, if_neg (by decide)]
  obtain ⟨x, c, n, hd, hx, hn⟩ := drawnC hb m (by omega)
  rw [hd, Option.bind_some]
  dsimp only
  have hB := claim_both x c n hx.1 hx.2 hn (m + 1) (by omega)
  have hlen := claimOf_len x c n
  rw [hB.1, Option.bind_some, hB.2, Option.bind_some]
  have hsame : laws_same.f (m + 1) (claimOf x c n).2.1 (claimOf x c n).2.1 = some true := by
    unfold laws_same.f
    rw [if_pos rfl]
    exact same_self _ (by omega) (claimOf x c n).2.1.length 0 (m + 1) (by omega) (by omega)
  rw [if_neg (by simp), if_pos rfl, hsame, Option.bind_some, if_pos rfl]
  by_cases hr : room x c = 0
  · unfold claimOf
    rw [if_pos hr]
    dsimp only
    rw [laws_FnClaim.j0, if_pos (by decide), if_pos (by decide)]
    rfl
  · by_cases hn1 : n < 1
    · unfold claimOf
      rw [if_neg hr, if_pos hn1]
      dsimp only
      rw [laws_FnClaim.j0, if_pos (by decide), if_pos (by decide)]
      rfl
    · unfold claimOf
      rw [if_neg hr, if_neg hn1]
      exact law_true hb hx.1 hx.2 (by omega) hr m (by omega)
theorem FnClaim : laws_FnClaim.Pure := fun l _ _ hw => ⟨600 + 1, main l hw 600 (by omega)⟩
end Go.Proofs.Ytmnjppfebaeoiaa.Pure
