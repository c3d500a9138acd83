/- The program's Owners returns what the reference's Owners returns, in memory of its own, for every machine. Conditions: none. -/
import Derived.Test.YtfhcnnkeokjfpaaGreatDoorMachLawO1
import Derived.Test.YtfhcnnkeokjfpaaGreatDoorMarkMachO1
import Derived.Test.YtfhcnnkeokjfpaaGreatDoorPO1x3
import Derived.Test.YtfhcnnkeokjfpaaGreatDoorPO1x7
import Derived.Test.YtfhcnnkeokjfpaaGreatDoorPO1x1
import Derived.Test.YtfhcnnkeokjfpaaGreatDoorPO1x8
set_option linter.unusedSimpArgs false
set_option linter.unusedVariables false
namespace Go.Proofs.YtfhcnnkeokjfpaaGreatDoor.Pure
open Go.RowKit Go.Proofs.YtfhcnnkeokjfpaaGreatDoor.Own Go.Proofs.YtfhcnnkeokjfpaaGreatDoor.Base Go.Proofs.YtfhcnnkeokjfpaaGreatDoor.PO1 Go.Proofs.YtfhcnnkeokjfpaaGreatDoorW.PrintWords Go.Proofs.YtfhcnnkeokjfpaaGreatDoorW.PrintLast

/-! ### the list is no longer than the words -/
theorem ownL_len (n : Int) (words : List Int) (stop who : Int) : ∀ (d : Nat) (l : List Int) (c : Int), (ownL n words d l c stop who).2.length = l.length
  | 0, l, c => rfl
  | d + 1, l, c => by
    rw [ownL]
    repeat' split
    all_goals first | rfl | (rw [ownL_len n words stop who d, List.length_set])
theorem headsL_len (n : Int) (words : List Int) : ∀ (r : List Int) (c : Nat) (l : List Int) (b : Bool) (l' : List Int), headsL n words r c l = some (b, l') → l'.length ≤ l.length
  | [], c, l, b, l', h => by
    rw [headsL] at h
    injection h with h
    injection h with _ h
    subst h
    exact Nat.le_refl _
  | x :: r, c, l, b, l', h => by
    rw [headsL] at h
    repeat' split at h
    · have := headsL_len n words r _ _ _ _ h
      rw [List.length_set, ownL_len] at this
      exact this
    · injection h with h
      injection h with _ h
      subst h
      exact Nat.zero_le _
    · cases h
    · exact headsL_len n words r _ _ _ _ h
theorem warpsL_len (n : Int) (words : List Int) : ∀ (r : List S59) (i : Nat) (l : List Int) (b : Bool) (l' : List Int), warpsL n words r i l = some (b, l') → l'.length ≤ l.length
  | [], c, l, b, l', h => by
    rw [warpsL] at h
    injection h with h
    injection h with _ h
    subst h
    exact Nat.le_refl _
  | x :: r, c, l, b, l', h => by
    rw [warpsL] at h
    repeat' split at h
    · have := warpsL_len n words r _ _ _ _ h
      rw [ownL_len] at this
      exact this
    · injection h with h
      injection h with _ h
      subst h
      exact Nat.zero_le _
    · cases h
theorem endL_len (b : Bool) (l : List Int) : (endL b l).1.length ≤ l.length := by
  cases b
  · exact Nat.zero_le _
  · exact Nat.le_refl _
theorem ownersM_len (words : List Int) (warps : List S59) (r : List Int × Bool) (h : ownersM words warps = some r) : r.1.length ≤ words.length := by
  unfold ownersM at h
  obtain ⟨⟨b1, l1⟩, h1, h⟩ := Option.bind_eq_some_iff.mp h
  have q1 := headsL_len _ _ _ _ _ _ _ h1
  rw [List.length_replicate] at q1
  split at h
  · obtain ⟨⟨b2, l2⟩, h2, h⟩ := Option.bind_eq_some_iff.mp h
    have q2 := warpsL_len _ _ _ _ _ _ _ h2
    split at h
    · injection h with h
      subst h
      exact Nat.le_trans (endL_len _ _) (Nat.le_trans q2 q1)
    · injection h with h
      subst h
      exact Nat.zero_le _
  · injection h with h
    subst h
    exact Nat.zero_le _
theorem owners_len (words : List Int) (warps : List S59) (r : List Int × Bool) (h : impl_owners.f words warps = some r) : r.1.length ≤ words.length := by
  unfold impl_owners.f at h
  repeat' split at h
  all_goals first
    | exact ownersM_len words warps r h
    | (injection h with h; subst h; exact Nat.zero_le _)
    | cases h

/-! ### how many marks -/
def tot : List S56 → Int
  | [] => 0
  | x :: r => x.f1.length + x.f2.length + tot r
theorem tot_drop (aws : List S56) (i : Nat) (hi : i < aws.length) : tot (aws.drop i) = (rd_T56 aws (i : Int)).f1.length + (rd_T56 aws (i : Int)).f2.length + tot (aws.drop (i + 1)) := by
  rw [List.drop_eq_getElem_cons hi, tot, (rd25_mem aws i hi).2]
theorem szWarps_sum (aws : List S56) (h64 : aws.length ≤ 1048576) (hl : ∀ x ∈ aws, x.f1.length ≤ 9223372036854775807 ∧ x.f2.length ≤ 9223372036854775807) : ∀ (m i : Nat) (n s : Int) (k : Nat), i + m = aws.length → 0 ≤ n ∧ n ≤ 1048576 → laws_szWarpS.l0 k aws n i = some s → 0 ≤ s → tot (aws.drop i) ≤ n
  | 0, i, n, s, k, hm, hn, h, h0 => by
    rw [List.drop_eq_nil_of_le (by omega), tot]
    exact hn.1
  | m + 1, i, n, s, 0, hm, hn, h, h0 => by rw [laws_szWarpS.l0] at h; cases h
  | m + 1, i, n, s, k + 1, hm, hn, h, h0 => by
    have hi : i < aws.length := by omega
    have hx := hl _ (rd25_mem aws i hi).1
    have e := szWarp_small (rd_T56 aws (i : Int)).f0 (rd_T56 aws (i : Int)).f1 (rd_T56 aws (i : Int)).f2 (rd_T56 aws (i : Int)).f3 (rd_T56 aws (i : Int)).f4 (rd_T56 aws (i : Int)).f5 (rd_T56 aws (i : Int)).f6 (rd_T56 aws (i : Int)).f7 n hx.1 hx.2 hn
    have w1 : wrap64 ((i : Int) + 1) = ((i + 1 : Nat) : Int) := by rw [w64 (by omega) (by omega)]; omega
    rw [tot_drop aws i hi]
    rw [laws_szWarpS.l0, if_pos (by omega), if_pos (by omega), e] at h
    by_cases c : n < ((rd_T56 aws (i : Int)).f1.length : Int) + (rd_T56 aws (i : Int)).f2.length
    · rw [if_pos c, Option.bind_some, if_pos (by decide)] at h
      injection h with h
      omega
    · rw [if_neg c, Option.bind_some, if_neg (by omega), w1] at h
      have := szWarps_sum aws h64 hl m (i + 1) _ s k (by omega) (by omega) h h0
      omega
theorem szMach_sum (words : List Int) (aws : List S56) (h1 : words.length ≤ 1048576) (h2 : aws.length ≤ 1048576) (hl : ∀ x ∈ aws, x.f1.length ≤ 9223372036854775807 ∧ x.f2.length ≤ 9223372036854775807) (k : Nat) (s : Int) (h : laws_szMach.f k words aws 1048576 = some s) (h0 : 0 ≤ s) : (words.length : Int) + aws.length + tot aws ≤ 1048576 := by
  have w0 : wrap64 (1048576 - (words.length : Int)) = 1048576 - (words.length : Int) := w64 (by omega) (by omega)
  have w1 : wrap64 (1048576 - (words.length : Int) - (aws.length : Int)) = 1048576 - (words.length : Int) - (aws.length : Int) := w64 (by omega) (by omega)
  unfold laws_szMach.f laws_szMem.f laws_szUint32S.f at h
  rw [w0, if_neg (by omega), Option.bind_some, if_neg (by omega), Option.bind_some, if_neg (by omega)] at h
  obtain ⟨t, ht, h⟩ := Option.bind_eq_some_iff.mp h
  have hts : 0 ≤ t := by
    split at h
    · injection h with h; omega
    · injection h with h; omega
  unfold laws_szWarpS.f at ht
  rw [w1] at ht
  by_cases c : 1048576 - (words.length : Int) - (aws.length : Int) < 0
  · rw [if_pos c] at ht
    injection ht with ht
    omega
  · rw [if_neg c] at ht
    have := szWarps_sum aws h2 hl aws.length 0 _ t k (by omega) (by omega) ht hts
    rw [List.drop_zero] at this
    omega
theorem mkS_conv : ∀ aws : List S56, mkS (aws.map conv) = 6 * aws.length + tot aws
  | [] => rfl
  | x :: r => by
    rw [List.map_cons, mkS, mkS_conv r, tot, List.length_cons]
    show 6 + (x.f1.length : Int) + x.f2.length + _ = _
    omega
theorem FnExactOwners : laws_FnExactOwners.Pure := by
  intro words aws ⟨hn1, hu1⟩ ⟨hn2, hw1⟩
  have hu : U32 words := fun x hx => wf_u32 (hu1 x hx)
  have hl : ∀ x ∈ aws, x.f1.length ≤ 9223372036854775807 ∧ x.f2.length ≤ 9223372036854775807 := fun x hx => ⟨(hw1 x hx).2.1.1, (hw1 x hx).2.2.1.1⟩
  obtain ⟨s, ⟨K1, h1⟩, hs⟩ := szMach_tells words aws hn1 hn2 hl
  by_cases c : s < 0
  · refine ⟨K1, ?_⟩
    unfold laws_FnExactOwners.f
    have h1' : laws_szMach.f K1 words aws 1048576 = some s := h1 K1 (Nat.le_refl _)
    rw [h1', Option.bind_some, if_pos c]
  · obtain ⟨l1, l2, l3⟩ := hs (by omega)
    have hsum := szMach_sum words aws l1 l2 hl K1 s (h1 K1 (Nat.le_refl _)) (by omega)
    obtain ⟨K2, h2⟩ := toMach_tells words aws l1 l2 l3
    have hwf : ∀ x ∈ aws.map conv, Wf x := by
      intro x hx
      obtain ⟨y, hy, rfl⟩ := List.mem_map.1 hx
      obtain ⟨_, q1, q2, q3, q4, q5, q6, q7⟩ := hw1 y hy
      exact ⟨wf_u32 q3, wf_u32 q7, wf_i64 q5, wf_i64 q6, fun v hv => wf_i64 (q1.2 v hv)⟩
    obtain ⟨⟨g, b⟩, m1, ⟨K3, m2⟩, m3, m5⟩ := mach_both words hu hn1 (aws.map conv) hwf (by rw [List.length_map]; exact hn2)
    have hg : g.length ≤ words.length := owners_len _ _ _ m1
    have so : Tells (fun k => spec_Owners.f k words (aws.map conv)) g := by
      cases b
      · have := m5 rfl
        injection this with e _
        subst e
        refine ⟨K3, fun k hk => ?_⟩
        have m2' : spec_MachOk.f k words (aws.map conv) = some false := m2 k hk
        show spec_Owners.f k _ _ = _
        unfold spec_Owners.f
        rw [m2', Option.bind_some, if_neg (by simp)]
      · obtain ⟨K, m3⟩ := m3 rfl
        refine ⟨K3 + K, fun k hk => ?_⟩
        have m2' : spec_MachOk.f k words (aws.map conv) = some true := m2 k (by omega)
        have m3' : spec_l08Owners.f k words (aws.map conv) = some (g, true) := m3 k (by omega)
        show spec_Owners.f k _ _ = _
        unfold spec_Owners.f
        rw [m2', Option.bind_some, if_pos rfl, m3', Option.bind_some]
    obtain ⟨K5, so⟩ := so
    obtain ⟨K4, m4⟩ := eqMach_tells words (aws.map conv) l1 (by rw [List.length_map]; exact l2) (fun j hj => by
      rw [List.length_map] at hj
      rw [rd_conv aws j hj]
      exact l3 j hj)
    have io : impl_Owners.f words (aws.map conv) = some g := by
      unfold impl_Owners.f
      rw [m1, Option.bind_some]
    have mm : laws_markMach.f words (aws.map conv) 1 = some (1 + words.length + mkS (aws.map conv)) := by
      unfold laws_markMach.f
      rw [if_pos ⟨by omega, by rw [mkS_conv]; omega⟩]
    have hm0 := mkS_nonneg (aws.map conv)
    obtain ⟨K, hK⟩ : ∃ K, K = K1 + K2 + K3 + K4 + K5 + words.length + 1 := ⟨_, rfl⟩
    refine ⟨K + 1, ?_⟩
    have h1' : laws_szMach.f (K + 1) words aws 1048576 = some s := h1 _ (by omega)
    have h2' : laws_toMach.f (K + 1) words aws = some (words, aws.map conv) := h2 _ (by omega)
    have h2'' : laws_toMach.f K words aws = some (words, aws.map conv) := h2 _ (by omega)
    have m4' : laws_eqMach.f (K + 1) words (aws.map conv) words (aws.map conv) = some true := m4 _ (by omega)
    have so' : spec_Owners.f (K + 1) words (aws.map conv) = some g := so _ (by omega)
    have ei : laws_eqIntS.f (K + 1) g g = some true := eqIntS_self g (by omega) _ (by omega)
    have ei' : laws_eqIntS.f K g g = some true := eqIntS_self g (by omega) _ (by omega)
    have mi : laws_markIntS.f K g 1 = some (1 + (g.length : Int), ups 1 g.length) := markIntS_at g 1 K (by omega) (by omega) (by omega)
    have he : laws_heldIntS.f K (ups 1 g.length) 1 = some (1 + (g.length : Int)) := heldIntS_at g.length 1 K (by omega) (by omega) (by omega)
    have j : laws_FnExactOwners.j0 (K + 1) g g (!true) words aws = some true := by
      rw [laws_FnExactOwners.j0, if_neg (by simp), mi, Option.bind_some, he, Option.bind_some, if_neg (by omega), if_pos rfl, h2'', Option.bind_some, io, Option.bind_some, ei', Option.bind_some, if_pos rfl, Option.bind_some, if_neg (by omega), if_pos rfl]
    unfold laws_FnExactOwners.f
    rw [h1', Option.bind_some, if_neg c, h2', Option.bind_some, so', Option.bind_some, Option.bind_some, io, Option.bind_some, ei, Option.bind_some, if_pos rfl, Option.bind_some, m4', Option.bind_some, if_pos rfl, mm, Option.bind_some, if_neg (by omega), Option.bind_some, j]
end Go.Proofs.YtfhcnnkeokjfpaaGreatDoor.Pure
