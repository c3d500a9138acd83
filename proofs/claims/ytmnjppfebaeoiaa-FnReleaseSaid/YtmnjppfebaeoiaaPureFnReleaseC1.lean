/- A released block was allocated and can be claimed again; releasing it twice fails. Conditions: none. -/
import Derived.Test.YtmnjppfebaeoiaaRelPureC1
import Derived.Test.YtmnjppfebaeoiaaDrawCtlC1
import Derived.Test.YtmnjppfebaeoiaaPC1x2
import Derived.Test.YtmnjppfebaeoiaaPC1x3
import Derived.Test.YtmnjppfebaeoiaaPC1x4
set_option linter.unusedVariables false
set_option linter.unusedSimpArgs false
namespace Go.Proofs.Ytmnjppfebaeoiaa.Pure
open Go.RowKit Go.Proofs.Ytmnjppfebaeoiaa.Base Go.Proofs.Ytmnjppfebaeoiaa.PC1 Go.Proofs.YtmnjppfebaeoiaaW.PrintWords Go.Proofs.YtmnjppfebaeoiaaW.PrintLast

theorem ctlRead_cls (x : Int) : 0 ≤ (ctlRead x).2.1 ∧ (ctlRead x).2.1 ≤ 4 := ctlRead_class x
theorem ons_mem : ∀ (l : List Int) (i : Nat) (b : Int), b ∈ ons i l → (i : Int) ≤ b ∧ b < i + l.length := ons_range
theorem drawn {l : List Int} (hl : Bytes l) (k : Nat) (hk : 120 < k) : ∃ x off, spec_DrawRelease.f (k + 1) l = some (x, off) ∧ (0 ≤ x ∧ x ≤ 4294967295) ∧ -9223372036854775808 ≤ off ∧ off ≤ 9223372036854775807 := by
  unfold spec_DrawRelease.f
  obtain ⟨s, e0, k0⟩ := open_ok hl
  rw [e0, Option.bind_some]
  try dsimp only
  obtain ⟨x, a1, s1, e1, k1, hx⟩ := ctlWord_ok hl k0 (by omega) (k + 1) (by omega)
  rw [e1, Option.bind_some]
  try dsimp only
  have hm := ctlRead_map x
  obtain ⟨m, hm'⟩ := Int.eq_ofNat_of_zero_le hm.1
  rw [spec_ctlRead x hx.1 hx.2 _ (by omega), Option.bind_some]
  try dsimp only
  rw [hm', spec_bitList m (by omega) _ (by omega), Option.bind_some]
  have hlen := bitList_len m
  have plain : ∀ (a s : Int) (x2 x3 x4 : Int), Cur 30 a s → ∃ y off, spec_DrawRelease.j0 (k + 1) x (bitList m) false l a s x2 (ctlRead x).2.1 x3 x4 = some (y, off) ∧ (0 ≤ y ∧ y ≤ 4294967295) ∧ -9223372036854775808 ≤ off ∧ off ≤ 9223372036854775807 := by
    intro a s x2 x3 x4 kk
    rw [spec_DrawRelease.j0, if_neg (by decide)]
    obtain ⟨r1, b1, u1, f1, g1, p1, p2, _⟩ := pick_ok hl kk (by omega) 17 (by omega)
    rw [f1, Option.bind_some]
    obtain ⟨r2, b2, u2, f2, g2, p3⟩ := raw_ok hl g1 (by omega)
    rw [f2, Option.bind_some, Option.bind_some]
    obtain ⟨r3, b3, u3, f3, g3, p4, p5, _⟩ := pick_ok hl g2 (by omega) 2 (by omega)
    rw [f3, Option.bind_some]
    have p2 := p2 (by omega)
    have p5 := p5 (by omega)
    try dsimp only
    rw [if_pos p4, if_pos (by simpa using p5)]
    have hm := rd_mem (xs := [r1, r2]) p4 (by simpa using p5)
    refine ⟨_, _, rfl, hx, ?_⟩
    generalize rd [r1, r2] r3 = z at hm ⊢
    simp only [List.mem_cons, List.not_mem_nil, or_false] at hm
    omega
  by_cases c1 : (ctlRead x).2.2.2.2 = true
  · rw [if_pos c1]
    by_cases c2 : ((bitList m).length : Int) > 0
    · rw [if_pos c2]
      obtain ⟨q, a2, s2, e2, k2⟩ := once_ok hl k1 (by omega) 4 (by omega)
      rw [e2, Option.bind_some]
      try dsimp only
      cases q with
      | true => exact plain _ _ _ _ _ (k2.mono (by omega))
      | false =>
        rw [spec_DrawRelease.j0, if_pos (by decide)]
        obtain ⟨r1, b1, u1, f1, g1, p1, p2, p3⟩ := pick_ok hl k2 (by omega) ((bitList m).length : Int) (by omega)
        rw [f1, Option.bind_some]
        have p4 : r1 < ((bitList m).length : Int) := by
          by_cases h2 : 2 ≤ ((bitList m).length : Int)
          · exact p2 h2
          · have := p3 (by omega); omega
        have hb := bitList_range (rd_mem (xs := bitList m) p1 p4)
        have hcl := ctlRead_cls x
        try dsimp only
        rw [if_pos p1, if_pos p4, spec_size _ hcl _ (by omega), Option.bind_some]
        have hs := sz_pos (ctlRead x).2.1
        have hmul : 0 ≤ rd (bitList m) r1 * sz (ctlRead x).2.1 ∧ rd (bitList m) r1 * sz (ctlRead x).2.1 ≤ 512 := by
          rcases class_cases hcl with h | h | h | h | h <;> rw [h] <;> simp only [sz] <;> simp <;> omega
        exact ⟨_, _, rfl, hx, by rw [w64 (by omega) (by omega)]; omega, by rw [w64 (by omega) (by omega)]; omega⟩
    · rw [if_neg c2]
      exact plain _ _ _ _ _ (k1.mono (by omega))
  · rw [if_neg c1]
    exact plain _ _ _ _ _ (k1.mono (by omega))

theorem pop_less : ∀ (N n x : Nat), n < N → x / 2 ^ n % 2 = 1 → pop N x = pop N (x - 2 ^ n) + 1
  | 0, n, x, h, _ => by omega
  | N + 1, 0, x, h, hb => by
    simp at hb
    rw [pop, pop, Nat.pow_zero, show (x - 1) / 2 = x / 2 by omega, show (x - 1) % 2 = 0 by omega, hb]
    omega
  | N + 1, n + 1, x, h, hb => by
    have hb' : x / 2 / 2 ^ n % 2 = 1 := by rw [Nat.div_div_eq_div_mul, Nat.mul_comm 2, ← Nat.pow_succ]; exact hb
    have hge : 2 ^ n ≤ x / 2 := by
      rcases Nat.lt_or_ge (x / 2) (2 ^ n) with h | h
      · rw [Nat.div_eq_of_lt h] at hb'; omega
      · exact h
    have ih := pop_less N n (x / 2) (by omega) hb'
    rw [pop, pop, Nat.pow_succ, show (x - 2 ^ n * 2) / 2 = x / 2 - 2 ^ n by omega, show (x - 2 ^ n * 2) % 2 = x % 2 by omega, ih]
    omega
theorem bit_gone : ∀ (n x : Nat), x / 2 ^ n % 2 = 1 → (x - 2 ^ n) / 2 ^ n % 2 = 0
  | 0, x, h => by simp at h ⊢; omega
  | n + 1, x, h => by
    have h' : x / 2 / 2 ^ n % 2 = 1 := by rw [Nat.div_div_eq_div_mul, Nat.mul_comm 2, ← Nat.pow_succ]; exact h
    have ih := bit_gone n (x / 2) h'
    have hge : 2 ^ n ≤ x / 2 := by
      rcases Nat.lt_or_ge (x / 2) (2 ^ n) with h | h
      · rw [Nat.div_eq_of_lt h] at h'; omega
      · exact h
    rw [Nat.pow_succ, Nat.mul_comm (2 ^ n) 2, ← Nat.div_div_eq_div_mul, show (x - 2 * 2 ^ n) / 2 = x / 2 - 2 ^ n by omega]
    exact ih
theorem classOf_sz (c : Int) (hc : 0 ≤ c ∧ c ≤ 4) (m : Nat) : impl_ClassOf.f (m + 5) (sz c) = some c := by
  induction m with
  | zero => rcases class_cases hc with rfl | rfl | rfl | rfl | rfl <;> decide +kernel
  | succ m ih =>
    rw [show m + 1 + 5 = m + 5 + 1 by omega]
    exact impl_ClassOf.mono _ _ _ ih
theorem taken_page {x : Int} (h0 : 0 ≤ x) (h1 : x ≤ 4294967295) {b : Int} {m : Nat} (hb : 0 ≤ b ∧ b ≤ 4) (hm : m < 65536) (h : ctlRead x = (1, b, (m : Int), 0, true)) (k : Nat) (hk : 1 < k) : impl_TakenWords.f k x = some ((pop 32 m : Nat) * sz b) := by
  obtain ⟨k, rfl⟩ : ∃ m, k = m + 1 := ⟨k - 1, by omega⟩
  have hp := pop32_le m
  unfold impl_TakenWords.f
  rw [impl_ctlRead x h0 h1 _ hk, h, Option.bind_some]
  dsimp only
  rw [if_pos rfl, impl_TakenWords.j0, if_pos (by decide), impl_ones m (by omega), Option.bind_some, if_pos hb.1, shl_sz hb (by omega)]
theorem taken_free {x : Int} (h0 : 0 ≤ x) (h1 : x ≤ 4294967295) (h : ctlRead x = (0, 0, 0, 0, true)) (k : Nat) (hk : 1 < k) : impl_TakenWords.f k x = some 0 := by
  obtain ⟨k, rfl⟩ : ∃ m, k = m + 1 := ⟨k - 1, by omega⟩
  unfold impl_TakenWords.f
  rw [impl_ctlRead x h0 h1 _ hk, h, Option.bind_some]
  dsimp only
  rw [if_pos rfl, impl_TakenWords.j0, if_neg (by decide), if_pos rfl, if_neg (by decide)]

/-- What a release that succeeds says of the word. -/
theorem rel_parts {x off : Int} (h : (release x off).2.2 = true) : ∃ b : Int, ∃ m n : Nat, ctlRead x = (1, b, (m : Int), 0, true) ∧ (0 ≤ b ∧ b ≤ 4) ∧ m < 65536 ∧ n < 16 ∧ m / 2 ^ n % 2 = 1 ∧ (0 ≤ off ∧ off ≤ 15) ∧ off / sz b = (n : Int) ∧ ctlOk 1 b (m : Int) 0 = true ∧ release x off = (if m - 2 ^ n = 0 then 0 else word 1 b ((m - 2 ^ n : Nat) : Int) 0, sz b, true) := by
  unfold release at h ⊢
  by_cases c : (ctlRead x).2.2.2.2 = true ∧ (ctlRead x).1 = 1
  · rw [if_pos c] at h ⊢
    have hp := ctl_page c.1 c.2
    have hcl := ctlRead_class x
    have hm := ctlRead_map x
    obtain ⟨m, hm'⟩ := Int.eq_ofNat_of_zero_le hm.1
    unfold relOf at h ⊢
    split at h
    · rename_i hh
      obtain ⟨h1, h2, h3⟩ := hh
      obtain ⟨n, hn, hn16⟩ := quot (b := (ctlRead x).2.1) h1
      rw [hm', Int.toNat_natCast, hn, Int.toNat_natCast] at h3
      refine ⟨(ctlRead x).2.1, m, n, ?_, hcl, by omega, hn16, h3, h1, hn, ?_, ?_⟩
      · obtain ⟨p1, p2, p3⟩ := hp
        generalize ctlRead x = r at *
        obtain ⟨r1, r2, r3, r4, r5⟩ := r
        dsimp only at *
        obtain ⟨c1, c2⟩ := c
        subst c1 c2 hm' p2
        rfl
      · rw [← hm']; exact hp.2.2
      · rw [hn] at h2
        rw [hm', Int.toNat_natCast, hn, Int.toNat_natCast, if_pos ⟨h1, h2, h3⟩]
    · cases h
  · rw [if_neg c] at h
    cases h
theorem law_true {x off : Int} (h0 : 0 ≤ x) (h1 : x ≤ 4294967295) (h : (release x off).2.2 = true) (k : Nat) (hk : 200 < k) :
    laws_FnRelease.j0 (k + 1) x off (release x off).1 true (release x off).1 (release x off).2.1 true false = some true := by
  obtain ⟨b, m, n, hr, hb, hm, hn, hbit, ho, hq, hok, hrel⟩ := rel_parts h
  have hlt : m - 2 ^ n < 65536 := Nat.lt_of_le_of_lt (Nat.sub_le _ _) hm
  have hpop := pop_less 32 n m (by omega) hbit
  have hgone := bit_gone n m hbit
  have hsz := sz_pos b
  have hp32 := pop32_le m
  have hge : 2 ^ n ≤ m := by
    rcases Nat.lt_or_ge m (2 ^ n) with h | h
    · rw [Nat.div_eq_of_lt h] at hbit; omega
    · exact h
  have hroomx : room x b = perPage b - (pop 32 m : Nat) := by
    unfold room
    rw [hr]
    dsimp only
    rw [if_pos rfl, if_neg (by decide), if_pos ⟨rfl, rfl⟩, Int.toNat_natCast]
  have hT := taken_page h0 h1 hb hm hr k (by omega)
  obtain ⟨y, hy⟩ : ∃ y, y = (release x off).1 := ⟨_, rfl⟩
  have hs : (release x off).2.1 = sz b := by rw [hrel]
  rw [← hy, hs]
  rw [hrel] at hy
  dsimp only at hy
  obtain ⟨k', rfl⟩ : ∃ m, k = m + 5 := ⟨k - 5, by omega⟩
  have hC := classOf_sz b hb k'
  have hmulx : 0 ≤ ((pop 32 m : Nat) : Int) * sz b ∧ ((pop 32 m : Nat) : Int) * sz b ≤ 512 := by
    rcases class_cases hb with rfl | rfl | rfl | rfl | rfl <;> simp only [sz] <;> simp <;> omega
  have hdiff : ((pop 32 m : Nat) : Int) * sz b - ((pop 32 (m - 2 ^ n) : Nat) : Int) * sz b = sz b := by
    rw [hpop]
    rcases class_cases hb with rfl | rfl | rfl | rfl | rfl <;> simp only [sz] <;> simp <;> omega
  by_cases hz : m - 2 ^ n = 0
  · rw [if_pos hz] at hy
    subst hy
    have hry : ctlRead 0 = (0, 0, 0, 0, true) := by decide
    have hroomy : room 0 b = perPage b := by
      unfold room
      rw [hry]
      rfl
    have hR : impl_Release.f (k' + 5) 0 off = some (0, 0, false) := by
      rw [impl_release 0 off (by decide) (by decide) _ (by omega)]
      unfold release
      rw [hry, if_neg (by decide)]
    have hB : impl_BlockAt.f (k' + 5) 0 off = some (0, 0, false) := by
      unfold impl_BlockAt.f
      rw [impl_ctlRead 0 (by decide) (by decide) _ (by omega), hry, Option.bind_some]
      dsimp only
      rw [if_pos rfl, if_neg (by decide)]
    rw [hz] at hpop hdiff
    have hp0 : pop 32 0 = 0 := by decide
    rw [hp0] at hpop hdiff
    rw [laws_FnRelease.j0, if_neg (by decide), hR, Option.bind_some, hB, Option.bind_some, impl_ctlRead 0 (by decide) (by decide) _ (by omega), hry, Option.bind_some]
    dsimp only
    rw [if_neg (by decide), if_neg (by decide), if_pos rfl, hT, Option.bind_some, taken_free (by decide) (by decide) hry _ (by omega), Option.bind_some, w64 (by omega) (by omega), if_pos (by omega), hC, Option.bind_some, impl_room 0 b (by decide) (by decide) _ (by omega), Option.bind_some, Option.bind_some, impl_room x b h0 h1 _ (by omega), Option.bind_some, hroomx, hroomy, decide_eq_true (by omega)]
  · rw [if_neg hz] at hy
    have hle : m - 2 ^ n ≤ m := Nat.sub_le _ _
    have hok' := page_less hok (d := ((m - 2 ^ n : Nat) : Int)) (by omega) (Int.ofNat_le.2 hle)
    have hry : ctlRead y = (1, b, ((m - 2 ^ n : Nat) : Int), 0, true) := by rw [hy]; exact ctlRead_word 1 b _ 0 (by omega) hok'
    have hyr : 0 ≤ y ∧ y ≤ 4294967295 := by rw [hy]; exact word_range 1 b _ 0 (by omega) hok'
    have hroomy : room y b = perPage b - (pop 32 (m - 2 ^ n) : Nat) := by
      unfold room
      rw [hry]
      dsimp only
      rw [if_pos rfl, if_neg (by decide), if_pos ⟨rfl, rfl⟩, Int.toNat_natCast]
    have hR : impl_Release.f (k' + 5) y off = some (0, 0, false) := by
      rw [impl_release y off hyr.1 hyr.2 _ (by omega)]
      unfold release relOf
      rw [hry]
      dsimp only
      rw [if_pos ⟨rfl, rfl⟩, hq, Int.toNat_natCast, Int.toNat_natCast, if_neg (by rw [hgone]; omega)]
    have hB : impl_BlockAt.f (k' + 5) y off = some (0, 0, false) := by
      unfold impl_BlockAt.f
      rw [impl_ctlRead y hyr.1 hyr.2 _ (by omega), hry, Option.bind_some]
      dsimp only
      rw [if_pos rfl, if_pos rfl, within_ctl, Option.bind_some, decide_eq_true ho, if_pos rfl, if_pos hb.1, shr_sz hb, hq, if_pos (by omega), bit_at hlt hn, hgone, if_pos (by decide)]
    rw [laws_FnRelease.j0, if_neg (by decide), hR, Option.bind_some, hB, Option.bind_some, impl_ctlRead y hyr.1 hyr.2 _ (by omega), hry, Option.bind_some]
    dsimp only
    rw [if_neg (by decide), if_neg (by decide), if_pos rfl, hT, Option.bind_some, taken_page hyr.1 hyr.2 hb hlt hry _ (by omega), Option.bind_some, w64 (by omega) (by omega), if_pos hdiff, hC, Option.bind_some, impl_room y b hyr.1 hyr.2 _ (by omega), Option.bind_some, Option.bind_some, impl_room x b h0 h1 _ (by omega), Option.bind_some, hroomx, hroomy, decide_eq_true (by omega)]

theorem main (l : List Int) (hw : ∀ x ∈ l, (Lit.int .u8 x).wf = true) (m : Nat) (hm : 300 < m) : laws_FnRelease.f (m + 1) l = some true := by
  unfold laws_FnRelease.f
  rcases big_or hw with h | ⟨h, hb⟩
  · rw [h]; rfl
  rw [h, Option.bind_some, if_neg (by decide)]
  obtain ⟨x, off, hd, hx, ho⟩ := drawn hb m (by omega)
  rw [hd, Option.bind_some]
  dsimp only
  rw [spec_release x off hx.1 hx.2 _ (by omega), Option.bind_some, impl_release x off hx.1 hx.2 _ (by omega), Option.bind_some]
  rw [if_neg (by simp), if_pos rfl, if_pos rfl]
  cases hc : (release x off).2.2 with
  | true => exact law_true hx.1 hx.2 hc m (by omega)
  | false =>
    rw [laws_FnRelease.j0, if_pos (by decide), if_pos (by simp)]
    simp
theorem FnRelease : laws_FnRelease.Pure := fun l _ _ hw => ⟨400 + 1, main l hw 400 (by omega)⟩
end Go.Proofs.Ytmnjppfebaeoiaa.Pure
