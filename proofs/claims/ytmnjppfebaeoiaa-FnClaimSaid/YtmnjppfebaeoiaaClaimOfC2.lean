/- Claim by the program and by the reference: both come to one plain claim. Conditions: none. -/
import Derived.Test.YtmnjppfebaeoiaaClaimPureC2
import Derived.Test.YtmnjppfebaeoiaaIntLawC2
import Derived.Test.YtmnjppfebaeoiaaPC2x1
import Derived.Test.YtmnjppfebaeoiaaPC2x2
import Derived.Test.YtmnjppfebaeoiaaPC2x3
import Derived.Test.YtmnjppfebaeoiaaPC2x4
set_option linter.unusedVariables false
set_option linter.unusedSimpArgs false
namespace Go.Proofs.Ytmnjppfebaeoiaa.Pure
open Go.RowKit Go.Proofs.Ytmnjppfebaeoiaa.Base Go.Proofs.Ytmnjppfebaeoiaa.PC2 Go.Proofs.YtmnjppfebaeoiaaW.PrintWords Go.Proofs.YtmnjppfebaeoiaaW.PrintLast

theorem ctlRead_ok {x : Int} (h : (ctlRead x).2.2.2.2 = true) : ctlOk (ctlRead x).1 (ctlRead x).2.1 (ctlRead x).2.2.1 (ctlRead x).2.2.2.1 = true := by
  unfold ctlRead at h ⊢
  split at h
  · rename_i h'
    rw [if_pos h']
    exact h'
  · cases h
theorem page_pg {c : Int} (hc : 0 ≤ c ∧ c ≤ 4) : ∃ p : Nat, pg p ∧ perPage c = (p : Int) ∧ pageMax c = ((2 ^ p : Nat) : Int) := by
  rcases class_cases hc with rfl | rfl | rfl | rfl | rfl
  · exact ⟨16, .inl rfl, rfl, rfl⟩
  · exact ⟨8, .inr (.inl rfl), rfl, rfl⟩
  · exact ⟨4, .inr (.inr (.inl rfl)), rfl, rfl⟩
  · exact ⟨2, .inr (.inr (.inr (.inl rfl))), rfl, rfl⟩
  · exact ⟨1, .inr (.inr (.inr (.inr rfl))), rfl, rfl⟩
theorem free_none {p m : Nat} (hp : pg p) (hm : m < 2 ^ p) (h : free p m = []) : m = 2 ^ p - 1 := by
  have hl := pg_le hp
  have := sum_bitList (x := 2 ^ p - 1 - m) (by omega)
  unfold free at h
  rw [h] at this
  simp [sumL] at this
  omega
theorem room_facts {x c : Int} (h : room x c ≠ 0) : (ctlRead x).2.2.2.2 = true ∧ (0 ≤ c ∧ c ≤ 4) ∧ ∃ p m : Nat, pg p ∧ perPage c = (p : Int) ∧ pageMax c = ((2 ^ p : Nat) : Int) ∧ (ctlRead x).2.2.1 = (m : Int) ∧ m < 2 ^ p ∧ free p m ≠ [] := by
  unfold room at h
  by_cases c0 : (ctlRead x).2.2.2.2 = true
  · rw [if_pos c0] at h
    have ho := ctlRead_ok c0
    by_cases c1 : (ctlRead x).1 = 0
    · rw [if_pos c1] at h
      have hc : 0 ≤ c ∧ c ≤ 4 := by
        by_cases hc : 0 ≤ c ∧ c ≤ 4
        · exact hc
        · exact absurd (perPage_none c hc) h
      obtain ⟨p, hp, e1, e2⟩ := page_pg hc
      have hz : (ctlRead x).2.2.1 = 0 := by
        unfold ctlOk at ho
        rw [if_pos (.inl c1), decide_eq_true_eq] at ho
        exact ho.2.1
      refine ⟨c0, hc, p, 0, hp, e1, e2, hz, Nat.two_pow_pos p, fun hf => ?_⟩
      have := free_none hp (Nat.two_pow_pos p) hf
      rcases hp with rfl | rfl | rfl | rfl | rfl <;> simp at this
    · rw [if_neg c1] at h
      by_cases c2 : (ctlRead x).1 = 1 ∧ (ctlRead x).2.1 = c
      · rw [if_pos c2] at h
        unfold ctlOk at ho
        rw [if_neg (by omega), if_pos c2.1, decide_eq_true_eq, c2.2] at ho
        have hc : 0 ≤ c ∧ c ≤ 4 := ⟨ho.1, ho.2.1⟩
        obtain ⟨p, hp, e1, e2⟩ := page_pg hc
        have hm := ctlRead_map x
        obtain ⟨m, hm'⟩ := Int.eq_ofNat_of_zero_le hm.1
        have hlt : m < 2 ^ p := by have := ho.2.2.2.1; rw [hm', e2] at this; omega
        refine ⟨c0, hc, p, m, hp, e1, e2, hm', hlt, fun hf => ?_⟩
        have hfull := free_none hp hlt hf
        rw [hm', Int.toNat_natCast, hfull, e1] at h
        rcases hp with rfl | rfl | rfl | rfl | rfl <;> exact h (by decide)
      · rw [if_neg c2] at h
        exact absurd rfl h
  · rw [if_neg c0] at h
    exact absurd rfl h
/-- The places that are taken. -/
def mine (x c n : Int) : List Int := (free (perPage c).toNat (ctlRead x).2.2.1.toNat).take n.toNat
def claimOf (x c n : Int) : Int × List Int × Bool := if room x c = 0 then (0, [], false) else if n < 1 then (0, [], false) else (word 1 c ((ctlRead x).2.2.1 + sumL (mine x c n)) 0, (mine x c n).map (fun b => b * sz c), true)
theorem off_sz (c b : Int) (hc : 0 ≤ c ∧ c ≤ 4) (hb : 0 ≤ b ∧ b < 32) : 0 ≤ b * sz c ∧ b * sz c ≤ 512 := by
  rcases class_cases hc with rfl | rfl | rfl | rfl | rfl <;> simp only [sz] <;> simp <;> omega
theorem rdI' (l : List Int) (i : Nat) (h : i < l.length) : rd l (i : Int) = l[i] := rdI l i h
theorem spec_offs (c y : Int) (hc : 0 ≤ c ∧ c ≤ 4) (l : List Int) (hl : ∀ b ∈ l, 0 ≤ b ∧ b < 32) (hn : l.length ≤ 32) : ∀ (d i : Nat) (acc : List Int) (k : Nat), i + d = l.length → d + 20 < k → acc.length ≤ i → spec_Claim.l0 k c l y acc (i : Int) = some (y, acc ++ (l.drop i).map (fun b => b * sz c), true)
  | 0, i, acc, k, hd, hk, ha => by
    obtain ⟨k, rfl⟩ : ∃ m, k = m + 1 := ⟨k - 1, by omega⟩
    rw [spec_Claim.l0, if_neg (by omega), List.drop_of_length_le (by omega), List.map_nil, List.append_nil]
  | d + 1, i, acc, k, hd, hk, ha => by
    obtain ⟨k, rfl⟩ : ∃ m, k = m + 1 := ⟨k - 1, by omega⟩
    have hi : i < l.length := by omega
    have hb := hl l[i] (List.getElem_mem hi)
    have hs := off_sz c l[i] hc hb
    have hal : acc.length < 17592186044416 := by omega
    rw [spec_Claim.l0, if_pos (by omega), if_pos (by omega), spec_size c hc k (by omega), Option.bind_some, if_pos hal, rdI' l i hi, w64 (n := l[i] * sz c) (by omega) (by omega), w64 (n := (i : Int) + 1) (by omega) (by omega), show (i : Int) + 1 = ((i + 1 : Nat) : Int) by omega, spec_offs c y hc l hl hn d (i + 1) _ k (by omega) (by omega) (by simp; omega), List.drop_eq_getElem_cons hi, List.map_cons, List.append_assoc]
    rfl
theorem impl_offs (c t a1 a2 m a4 : Int) (hc : 0 ≤ c ∧ c ≤ 4) (l : List Int) (hl : ∀ b ∈ l, 0 ≤ b ∧ b < 32) (hn : l.length ≤ 32) : ∀ (d i : Nat) (acc : List Int) (k : Nat), i + d = l.length → d + 20 < k → acc.length ≤ i → impl_Claim.l0 k c t acc l (l.length : Int) (i : Int) a1 a2 m a4 = (impl_packed.f 1 c (Go.bits .or .u32 m t) 0).bind fun q => some (q, acc ++ (l.drop i).map (fun b => b * sz c), true)
  | 0, i, acc, k, hd, hk, ha => by
    obtain ⟨k, rfl⟩ : ∃ m, k = m + 1 := ⟨k - 1, by omega⟩
    rw [impl_Claim.l0, if_neg (by omega), List.drop_of_length_le (by omega), List.map_nil, List.append_nil]
  | d + 1, i, acc, k, hd, hk, ha => by
    obtain ⟨k, rfl⟩ : ∃ m, k = m + 1 := ⟨k - 1, by omega⟩
    have hi : i < l.length := by omega
    have hb := hl l[i] (List.getElem_mem hi)
    have hal : acc.length < 17592186044416 := by omega
    rw [impl_Claim.l0, if_pos (by omega), if_pos (by omega), if_pos (by omega), if_pos hc.1, if_pos hal, rdI' l i hi, shl_sz hc (by omega), w64 (n := (i : Int) + 1) (by omega) (by omega), show (i : Int) + 1 = ((i + 1 : Nat) : Int) by omega, impl_offs c t a1 a2 m a4 hc l hl hn d (i + 1) _ k (by omega) (by omega) (by simp; omega), List.drop_eq_getElem_cons hi, List.map_cons, List.append_assoc]
    rfl
theorem inc_mem : ∀ (l : List Int) (lo hi : Nat), inc lo hi l → ∀ b ∈ l, 0 ≤ b ∧ b < hi
  | [], _, _, _, b, hb => by simp at hb
  | x :: r, lo, hi, h, b, hb => by
    rcases List.mem_cons.1 hb with rfl | hb
    · have := h.1; have := h.2.1; omega
    · exact inc_mem r _ hi h.2.2 b hb
theorem claim_both (x c n : Int) (h0 : 0 ≤ x) (h1 : x ≤ 4294967295) (hn : -9223372036854775808 ≤ n ∧ n ≤ 9223372036854775807) (k : Nat) (hk : 300 < k) : spec_Claim.f k x c n = some (claimOf x c n) ∧ impl_Claim.f k x c n = some (claimOf x c n) := by
  obtain ⟨k, rfl⟩ : ∃ m, k = m + 1 := ⟨k - 1, by omega⟩
  have hR := impl_room x c h0 h1 (k + 1) (by omega)
  unfold impl_Room.f at hR
  unfold spec_Claim.f impl_Claim.f claimOf
  rw [spec_room x c h0 h1 _ (by omega), Option.bind_some, impl_ctlRead x h0 h1 _ (by omega), Option.bind_some]
  rw [impl_ctlRead x h0 h1 _ (by omega), Option.bind_some] at hR
  by_cases hr : room x c = 0
  · rw [if_pos hr, if_pos hr, spec_Claim.j0, if_pos rfl]
    refine ⟨rfl, ?_⟩
    by_cases ho : (ctlRead x).2.2.2.2 = true
    · rw [if_pos ho, Option.bind_fun_some] at hR
      rw [if_pos ho, hR, Option.bind_some, if_pos hr, impl_Claim.j0, if_pos rfl]
    · rw [if_neg ho, impl_Claim.j0, if_pos rfl]
  · rw [if_neg hr, if_neg hr]
    obtain ⟨ho, hc, p, m, hp, e1, e2, em, hm, hf⟩ := room_facts hr
    rw [if_pos ho, Option.bind_fun_some] at hR
    rw [if_pos ho, hR, Option.bind_some, if_neg hr, spec_Claim.j0, impl_Claim.j0]
    by_cases hn1 : n < 1
    · rw [if_pos hn1, decide_eq_true hn1, if_pos rfl, if_pos rfl]
      exact ⟨rfl, rfl⟩
    · have hnf : ¬ decide (n < 1) = true := by simpa using hn1
      have hpl := pg_le hp
      have hF := inc_free p m hp
      have hflen : (free p m).length ≤ 32 := bitList_len _
      have hmine : mine x c n = (free p m).take n.toNat := by unfold mine; rw [e1, em, Int.toNat_natCast, Int.toNat_natCast]
      obtain ⟨M, hM⟩ : ∃ M, M = (free p m).take n.toNat := ⟨_, rfl⟩
      have hincP : inc 0 p M := by rw [hM]; exact inc_take _ hF
      have hincM : inc 0 32 M := inc_mono_hi (by omega) _ _ hincP
      have hMlen : M.length ≤ 32 := by rw [hM, List.length_take]; omega
      have hMb : ∀ b ∈ M, 0 ≤ b ∧ b < 32 := inc_mem M 0 32 hincM
      have hsum := sum_bound M 0 p (by omega) hincP
      have hor : m ||| sumL M = m + sumL M := or_free p 0 m M (sumL M) (by simpa using hincP) (fun b hb => free_zs p m hp hm b (by rw [hM] at hb; exact List.mem_of_mem_take hb)) (by simp)
      have hlt : m + sumL M < 2 ^ p := by rw [← hor]; exact Nat.or_lt_two_pow hm (by omega)
      have hMne : M ≠ [] := by
        rw [hM]
        intro h
        rcases List.take_eq_nil_iff.1 h with h | h
        · omega
        · exact hf h
      have hpos : 0 < sumL M := by
        cases hM' : M with
        | nil => exact absurd hM' hMne
        | cons b r => rw [sumL]; have := Nat.two_pow_pos b.toNat; omega
      have hok : ctlOk 1 c ((m + sumL M : Nat) : Int) 0 = true := by
        unfold ctlOk
        rw [if_neg (by omega), if_pos rfl, decide_eq_true_eq, e2]
        refine ⟨hc.1, hc.2, ?_, ?_, rfl⟩ <;> omega
      have hsumI : (m : Int) + (sumL M : Nat) = ((m + sumL M : Nat) : Int) := by omega
      rw [if_neg hn1, if_neg hnf, if_neg hnf, hmine, ← hM, em, hsumI]
      constructor
      · have hmn : (free p m).take (mn n ((free p m).length : Int)).toNat = M := by
          rw [hM]
          unfold mn
          split
          · rw [Int.toNat_natCast, List.take_length, List.take_of_length_le (by omega)]
          · rfl
        have hmn0 : 0 ≤ mn n ((free p m).length : Int) ∧ mn n ((free p m).length : Int) ≤ (free p m).length := by
          unfold mn
          split <;> omega
        have L := spec_offs c (word 1 c ((m + sumL M : Nat) : Int) 0) hc M hMb hMlen M.length 0 [] k (by omega) (by omega) (by simp)
        rw [List.drop_zero, List.nil_append] at L
        rw [spec_ctlRead x h0 h1 _ (by omega), Option.bind_some, spec_perPage c k (by omega), Option.bind_some, em, e1, spec_free p m hp hm k (by omega), Option.bind_some, if_pos hmn0.1, if_pos hmn0.2, Option.bind_some, hmn, spec_setOf M hincM hMlen k (by omega), Option.bind_some]
        dsimp only
        rw [show ((m : Int) + (sumL M : Nat)) % 4294967296 = ((m + sumL M : Nat) : Int) by omega, spec_pack 1 c _ 0 (by omega) (by omega) k (by omega), if_pos hok, Option.bind_some]
        exact L
      · have L := impl_offs c ((sumL M : Nat) : Int) (ctlRead x).1 (ctlRead x).2.1 (m : Int) (ctlRead x).2.2.2.1 hc M hMb hMlen M.length 0 [] k (by omega) (by omega) (by simp)
        rw [List.drop_zero, List.nil_append, u32_or_nat m (sumL M) (by omega) (by omega), hor, impl_pack 1 c _ 0 (by omega) (by omega) (by omega) (by omega), Option.bind_some] at L
        rw [impl_perPage, Option.bind_some, e1, impl_freeLow p m n hp hm hn k (by omega), Option.bind_some, ← hM, impl_bitList _ (by omega) k (by omega), Option.bind_some, bitList_sum hincM]
        exact L
theorem claimOf_len (x c n : Int) : (claimOf x c n).2.1.length ≤ 32 := by
  unfold claimOf
  have : (mine x c n).length ≤ 32 := by
    have := bitList_len (2 ^ (perPage c).toNat - 1 - (ctlRead x).2.2.1.toNat)
    unfold mine free
    rw [List.length_take]
    omega
  (repeat' split) <;> simp <;> omega
end Go.Proofs.Ytmnjppfebaeoiaa.Pure
