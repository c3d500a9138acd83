/- The program's GiveAll returns what the reference's GiveAll returns, in memory of its own, for every machine and number. Conditions: none. -/
import Derived.Test.YtobboonnfocalaaGreatDoorMachLawG1
import Derived.Test.YtobboonnfocalaaGreatDoorMarkMachG1
import Derived.Test.YtobboonnfocalaaGreatDoorAuditPureG1
import Derived.Test.YtobboonnfocalaaGreatDoorGiveAllG1
import Derived.Test.YtobboonnfocalaaGreatDoorPG1x2
import Derived.Test.YtobboonnfocalaaGreatDoorPG1x3
import Derived.Test.YtobboonnfocalaaGreatDoorPG1x4
import Derived.Test.YtobboonnfocalaaGreatDoorPG1x7
import Derived.Test.YtobboonnfocalaaGreatDoorPG1x0
set_option linter.unusedSimpArgs false
set_option linter.unusedVariables false
namespace Go.Proofs.YtobboonnfocalaaGreatDoor.Pure
open Go.RowKit Go.Proofs.YtobboonnfocalaaGreatDoor.Own Go.Proofs.YtobboonnfocalaaGreatDoor.Base Go.Proofs.YtobboonnfocalaaGreatDoor.PG1 Go.Proofs.YtobboonnfocalaaGreatDoorW.PrintWords Go.Proofs.YtobboonnfocalaaGreatDoorW.PrintLast

/-! ### the reference's row -/
theorem spec_row (L : List S55) (hn : L.length ≤ 100000) : ∀ (d i k : Nat), i + d = min 8 L.length → d < k → spec_GiveAll.l0 k L (i : Int) 2 (gv L i) = some (2, gv L L.length, true)
  | 0, i, k, hd, hk => by
    obtain ⟨k, rfl⟩ : ∃ m, k = m + 1 := ⟨k - 1, by omega⟩
    rw [spec_GiveAll.l0]
    have e : gv L i = gv L L.length := by
      by_cases c : L.length ≤ 8
      · rw [show i = L.length by omega]
      · have : ∀ n, gv L (8 + n) = gv L 8 := fun n => by
          induction n with
          | zero => rfl
          | succ n ih => rw [← Nat.add_assoc, gv_ge L (8 + n) (by omega), ih]
        rw [show i = 8 by omega, show L.length = 8 + (L.length - 8) by omega, this]
    by_cases c : (i : Int) < 8
    · rw [if_pos c, if_neg (by omega), e]
    · rw [if_neg c, e]
  | d + 1, i, k, hd, hk => by
    obtain ⟨k, rfl⟩ : ∃ m, k = m + 1 := ⟨k - 1, by omega⟩
    have ih := spec_row L hn d (i + 1) k (by omega) (by omega)
    rw [gv_lt L i (by omega) (by omega)] at ih
    rw [spec_GiveAll.l0, if_pos (by omega), if_pos (by omega), if_pos (by omega), if_pos (by rw [gv_len L i (by omega)]; omega), w64 (by omega) (by omega), Int.toNat_natCast, show (i : Int) + 1 = ((i + 1 : Nat) : Int) by omega]
    exact ih
theorem give_row (k : Nat) (hk : 20 < k) : spec_l07Row.f k (-1) = some (List.replicate 8 (-1)) := by
  have h0 : spec_l07Row.f 20 (-1) = some (List.replicate 8 (-1)) := by decide +kernel
  exact up (f := fun k => spec_l07Row.f k (-1)) (fun k => spec_l07Row.mono (-1) k) h0 k (by omega)
theorem eqReq_one (c : Int) (q : List Int) (h1 : q.length ≤ 1048576) (k : Nat) (hk : q.length < k) : laws_eqReq.f k c q c q = some true := by
  unfold laws_eqReq.f
  rw [if_pos rfl, eqIntS_self q (by omega) k hk, Option.bind_some, if_pos rfl]
/-! ### how many marks -/
def tot : List S71 → Int
  | [] => 0
  | x :: r => x.f1.length + x.f2.length + tot r
theorem tot_drop (aws : List S71) (i : Nat) (hi : i < aws.length) : tot (aws.drop i) = (rd_T71 aws (i : Int)).f1.length + (rd_T71 aws (i : Int)).f2.length + tot (aws.drop (i + 1)) := by
  rw [List.drop_eq_getElem_cons hi, tot, (rd25_mem aws i hi).2]
theorem szWarps_sum (aws : List S71) (h64 : aws.length ≤ 1048576) (hl : ∀ x ∈ aws, x.f1.length ≤ 9223372036854775807 ∧ x.f2.length ≤ 9223372036854775807) : ∀ (m i : Nat) (n s : Int) (k : Nat), i + m = aws.length → 0 ≤ n ∧ n ≤ 1048576 → laws_szWarpS.l0 k aws n i = some s → 0 ≤ s → tot (aws.drop i) ≤ n
  | 0, i, n, s, k, hm, hn, h, h0 => by
    rw [List.drop_eq_nil_of_le (by omega), tot]
    exact hn.1
  | m + 1, i, n, s, 0, hm, hn, h, h0 => by rw [laws_szWarpS.l0] at h; cases h
  | m + 1, i, n, s, k + 1, hm, hn, h, h0 => by
    have hi : i < aws.length := by omega
    have hx := hl _ (rd25_mem aws i hi).1
    have e := szWarp_small (rd_T71 aws (i : Int)).f0 (rd_T71 aws (i : Int)).f1 (rd_T71 aws (i : Int)).f2 (rd_T71 aws (i : Int)).f3 (rd_T71 aws (i : Int)).f4 (rd_T71 aws (i : Int)).f5 (rd_T71 aws (i : Int)).f6 (rd_T71 aws (i : Int)).f7 n hx.1 hx.2 hn
    have w1 : wrap64 ((i : Int) + 1) = ((i + 1 : Nat) : Int) := by rw [w64 (by omega) (by omega)]; omega
    rw [tot_drop aws i hi]
    rw [laws_szWarpS.l0, if_pos (by omega), if_pos (by omega), e] at h
    by_cases c : n < ((rd_T71 aws (i : Int)).f1.length : Int) + (rd_T71 aws (i : Int)).f2.length
    · rw [if_pos c, Option.bind_some, if_pos (by decide)] at h
      injection h with h
      omega
    · rw [if_neg c, Option.bind_some, if_neg (by omega), w1] at h
      have := szWarps_sum aws h64 hl m (i + 1) _ s k (by omega) (by omega) h h0
      omega
theorem szMach_sum (words : List Int) (aws : List S71) (h1 : words.length ≤ 1048576) (h2 : aws.length ≤ 1048576) (hl : ∀ x ∈ aws, x.f1.length ≤ 9223372036854775807 ∧ x.f2.length ≤ 9223372036854775807) (k : Nat) (s : Int) (h : laws_szMach.f k words aws 1048576 = some s) (h0 : 0 ≤ s) : (words.length : Int) + aws.length + tot aws ≤ 1048576 := by
  have w0 : wrap64 (1048576 - (words.length : Int)) = 1048576 - (words.length : Int) := w64 (by omega) (by omega)
  have w1 : wrap64 (1048576 - (words.length : Int) - (aws.length : Int)) = 1048576 - (words.length : Int) - (aws.length : Int) := w64 (by omega) (by omega)
  unfold laws_szMach.f laws_szMem.f laws_szUint32S.f at h
  rw [w0, if_neg (by omega), Option.bind_some, if_neg (by omega), Option.bind_some, if_neg (by omega)] at h
  obtain ⟨t, ht, h⟩ := Option.bind_eq_some_iff.mp h
  have hts : 0 ≤ t := by
    split at h
    · injection h with h; omega
    · injection h with h; omega
  unfold laws_szWarpS.f at ht
  rw [w1] at ht
  by_cases c : 1048576 - (words.length : Int) - (aws.length : Int) < 0
  · rw [if_pos c] at ht
    injection ht with ht
    omega
  · rw [if_neg c] at ht
    have := szWarps_sum aws h2 hl aws.length 0 _ t k (by omega) (by omega) ht hts
    rw [List.drop_zero] at this
    omega
theorem mkS_conv : ∀ aws : List S71, mkS (aws.map conv) = 6 * aws.length + tot aws
  | [] => rfl
  | x :: r => by
    rw [List.map_cons, mkS, mkS_conv r, tot, List.length_cons]
    show 6 + (x.f1.length : Int) + x.f2.length + _ = _
    omega

/-- What both come to: a row of at most eight numbers. -/
theorem give_both (words : List Int) (ws : List S49) (a : Int) (b : Bool) (g : List Int) (hu : ∀ x ∈ words, 0 ≤ x ∧ x ≤ 4294967295) (hmem : b = true → Aud.memOk words = true) (m1 : impl_owners.f words ws = some (g, b)) (m2 : Tells (fun k => spec_MachOk.f k words ws) b) :
    ∃ r : Int × List Int × Bool, r.2.1.length ≤ 8 ∧ Tells (fun k => impl_GiveAll.f k words ws a) r ∧ Tells (fun k => spec_GiveAll.f k words ws a) r := by
  obtain ⟨K, m2⟩ := m2
  have zero : ∀ k, spec_GiveAll.j0 (k + 1) true words ws = some (0, [], false) := fun k => by rw [spec_GiveAll.j0, if_pos rfl]
  have out : ((b = false) ∨ ¬ (0 ≤ a ∧ a ≤ (ws.length : Int) - 1) ∨ ¬ (rd_T49 ws a).f0 = 0) → (∀ k, impl_GiveAll.f k words ws a = some (0, [], false)) ∧ Tells (fun k => spec_GiveAll.f k words ws a) (0, [], false) := fun h => by
    refine ⟨fun k => ?_, K + 1, fun k hk => ?_⟩
    · unfold impl_GiveAll.f
      rw [m1, Option.bind_some]
      by_cases c1 : b = true
      · rw [if_pos c1]
        by_cases c2 : 0 ≤ a ∧ a ≤ (ws.length : Int) - 1
        · rw [if_pos c2]
          by_cases c3 : (rd_T49 ws a).f0 = 0
          · rcases h with h | h | h
            · rw [c1] at h; cases h
            · exact absurd c2 h
            · exact absurd c3 h
          · rw [if_neg c3]
        · rw [if_neg c2]
      · rw [if_neg c1]
    · obtain ⟨k, rfl⟩ : ∃ m, k = m + 1 := ⟨k - 1, by omega⟩
      have e : spec_MachOk.f (k + 1) words ws = some b := m2 (k + 1) (by omega)
      show spec_GiveAll.f (k + 1) words ws a = _
      unfold spec_GiveAll.f
      rw [e, Option.bind_some]
      by_cases c1 : b = true
      · rw [if_pos c1]
        by_cases c2 : a < 0
        · rw [if_pos c2, zero]
        · rw [if_neg c2]
          by_cases c3 : a ≥ (ws.length : Int)
          · rw [if_pos c3, zero]
          · rw [if_neg c3, if_pos (by omega), if_pos (by omega)]
            by_cases c4 : (rd_T49 ws a).f0 = 0
            · rcases h with h | h | h
              · rw [c1] at h; cases h
              · exact absurd ⟨by omega, by omega⟩ h
              · exact absurd c4 h
            · rw [show ((rd_T49 ws a).f0 != 0) = true from bne_iff_ne.mpr c4, zero]
      · rw [if_neg c1, zero]
  by_cases c1 : b = true
  · by_cases c2 : 0 ≤ a ∧ a ≤ (ws.length : Int) - 1
    · by_cases c3 : (rd_T49 ws a).f0 = 0
      · have hm := hmem c1
        have hn := Aud.memOk_len hm
        have hL : (Aud.allFrom 0 words).length ≤ 33 * words.length := Aud.allFrom_len words 0
        have ea := fun k hk => Aud.impl_audit_eq words hu hm k hk
        have es := fun k hk => Aud.spec_audit_eq words hu k hk
        generalize hLL : Aud.allFrom 0 words = L at hL ea
        have hao : Aud.auditOf words = (L, true) := by unfold Aud.auditOf; rw [if_pos hm, hLL]
        refine ⟨(2, gv L L.length, true), by rw [gv_len L L.length (Nat.le_refl _)]; omega, ⟨1001, fun k hk => ?_⟩, ⟨K + 1100, fun k hk => ?_⟩⟩
        · show impl_GiveAll.f k words ws a = _
          unfold impl_GiveAll.f
          rw [m1, Option.bind_some, if_pos c1, if_pos c2, if_pos c3, ea k (by omega), Option.bind_some, if_pos (by omega)]
        · obtain ⟨k, rfl⟩ : ∃ m, k = m + 1 := ⟨k - 1, by omega⟩
          have e : spec_MachOk.f (k + 1) words ws = some b := m2 (k + 1) (by omega)
          show spec_GiveAll.f (k + 1) words ws a = _
          unfold spec_GiveAll.f
          rw [e, Option.bind_some, if_pos c1, if_neg (by omega), if_neg (by omega), if_pos (by omega), if_pos (by omega), show ((rd_T49 ws a).f0 != 0) = false by rw [c3]; rfl, spec_GiveAll.j0, if_neg (by simp), es k (by omega), Option.bind_some, give_row k (by omega), Option.bind_some, hao]
          have := spec_row L (by omega) (min 8 L.length) 0 k (by omega) (by omega)
          rw [gv_zero] at this
          exact this
      · obtain ⟨q1, q2⟩ := out (.inr (.inr c3))
        exact ⟨_, by simp, ⟨0, fun k _ => q1 k⟩, q2⟩
    · obtain ⟨q1, q2⟩ := out (.inr (.inl c2))
      exact ⟨_, by simp, ⟨0, fun k _ => q1 k⟩, q2⟩
  · obtain ⟨q1, q2⟩ := out (.inl (by simpa using c1))
    exact ⟨_, by simp, ⟨0, fun k _ => q1 k⟩, q2⟩
theorem FnExactGiveAll : laws_FnExactGiveAll.Pure := by
  intro words aws a ⟨hn1, hu1⟩ ⟨hn2, hw1⟩ ha
  have hu : U32 words := fun x hx => wf_u32 (hu1 x hx)
  have hl : ∀ x ∈ aws, x.f1.length ≤ 9223372036854775807 ∧ x.f2.length ≤ 9223372036854775807 := fun x hx => ⟨(hw1 x hx).2.1.1, (hw1 x hx).2.2.1.1⟩
  obtain ⟨s, ⟨K1, h1⟩, hs⟩ := szMach_tells words aws hn1 hn2 hl
  by_cases c : s < 0
  · refine ⟨K1, ?_⟩
    unfold laws_FnExactGiveAll.f
    have h1' : laws_szMach.f K1 words aws 1048576 = some s := h1 K1 (Nat.le_refl _)
    rw [h1', Option.bind_some, if_pos c]
  · obtain ⟨l1, l2, l3⟩ := hs (by omega)
    have hsum := szMach_sum words aws l1 l2 hl K1 s (h1 K1 (Nat.le_refl _)) (by omega)
    obtain ⟨K2, h2⟩ := toMach_tells words aws l1 l2 l3
    have hwf : ∀ x ∈ aws.map conv, Wf x := by
      intro x hx
      obtain ⟨y, hy, rfl⟩ := List.mem_map.1 hx
      obtain ⟨_, q1, q2, q3, q4, q5, q6, q7⟩ := hw1 y hy
      exact ⟨wf_u32 q3, wf_u32 q7, wf_i64 q5, wf_i64 q6, fun v hv => wf_i64 (q1.2 v hv)⟩
    obtain ⟨⟨g, b⟩, m1, m2, m3, m5⟩ := mach_both words hu hn1 (aws.map conv) hwf (by rw [List.length_map]; exact hn2)
    have hmem : b = true → Aud.memOk words = true := fun hb => by
      subst hb
      have hh : heapOk words = true := by
        cases q : heapOk words with
        | true => rfl
        | false => unfold impl_owners.f at m1; rw [q] at m1; simp at m1
      rw [← Aud.heapOk_eq words (fun x hx => by have := hu x hx; unfold Aud.isW32; omega)]
      exact hh
    obtain ⟨⟨r1, r2, r3⟩, hr, ⟨K3, i3⟩, ⟨K5, s5⟩⟩ := give_both words (aws.map conv) a b g (fun x hx => by have := hu x hx; omega) hmem m1 m2
    obtain ⟨K4, m4⟩ := eqMach_tells words (aws.map conv) l1 (by rw [List.length_map]; exact l2) (fun j hj => by
      rw [List.length_map] at hj
      rw [rd_conv aws j hj]
      exact l3 j hj)
    have mm : laws_markMach.f words (aws.map conv) 1 = some (1 + words.length + mkS (aws.map conv)) := by
      unfold laws_markMach.f
      rw [if_pos ⟨by omega, by rw [mkS_conv]; omega⟩]
    have hm0 := mkS_nonneg (aws.map conv)
    have hr' : r2.length ≤ 8 := hr
    obtain ⟨K, hK⟩ : ∃ K, K = K1 + K2 + K3 + K4 + K5 + 20 := ⟨_, rfl⟩
    refine ⟨K + 3, ?_⟩
    have h1' : laws_szMach.f (K + 3) words aws 1048576 = some s := h1 _ (by omega)
    have h2' : ∀ k, K ≤ k → laws_toMach.f k words aws = some (words, aws.map conv) := fun k hk => h2 k (by omega)
    have m4' : ∀ k, K ≤ k → laws_eqMach.f k words (aws.map conv) words (aws.map conv) = some true := fun k hk => m4 k (by omega)
    have ii : ∀ k, K ≤ k → impl_GiveAll.f k words (aws.map conv) a = some (r1, r2, r3) := fun k hk => i3 k (by omega)
    have ss : spec_GiveAll.f (K + 3) words (aws.map conv) a = some (r1, r2, r3) := s5 _ (by omega)
    have ee : ∀ k, K ≤ k → laws_eqReq.f k r1 r2 r1 r2 = some true := fun k hk => eqReq_one r1 r2 (by omega) k (by omega)
    have mr : ∀ k, K ≤ k → laws_markReq.f k r1 r2 1 = some (1 + (r2.length : Int), ups 1 r2.length) := fun k hk => by unfold laws_markReq.f; rw [markIntS_at r2 1 k (by omega) (by omega) (by omega), Option.bind_some]
    have hq : ∀ k, K ≤ k → laws_heldReq.f k r1 (ups 1 r2.length) 1 = some (1 + (r2.length : Int)) := fun k hk => by unfold laws_heldReq.f; rw [heldIntS_at r2.length 1 k (by omega) (by omega) (by omega), Option.bind_some, if_neg (by omega)]
    have j2 : laws_FnExactGiveAll.j2 (K + 1) (1 + (r2.length : Int)) false r1 (ups 1 r2.length) = some true := by
      rw [laws_FnExactGiveAll.j2, if_neg (by simp), hq K (by omega), Option.bind_some, if_neg (by omega), if_pos rfl]
    have j1 : laws_FnExactGiveAll.j1 (K + 2) a r3 false words aws r1 r2 r1 r2 = some true := by
      rw [laws_FnExactGiveAll.j1, if_neg (by simp), mr (K + 1) (by omega), Option.bind_some, hq (K + 1) (by omega), Option.bind_some, if_neg (by omega), if_pos rfl, h2' (K + 1) (by omega), Option.bind_some, ii (K + 1) (by omega), Option.bind_some, ee (K + 1) (by omega), Option.bind_some, if_pos rfl, show (r3 != r3) = false by simp]
      exact j2
    have j0 : laws_FnExactGiveAll.j0 (K + 3) a r3 r3 false words aws r1 r2 words (aws.map conv) r1 r2 = some true := by
      rw [laws_FnExactGiveAll.j0, if_neg (by simp), h2' (K + 2) (by omega), Option.bind_some, m4' (K + 2) (by omega), Option.bind_some, if_pos rfl, mm, Option.bind_some, if_neg (by omega), ee (K + 2) (by omega), Option.bind_some, if_pos rfl, show (r3 != r3) = false by simp]
      exact j1
    unfold laws_FnExactGiveAll.f
    rw [h1', Option.bind_some, if_neg c, h2' (K + 3) (by omega), Option.bind_some, ss, Option.bind_some, Option.bind_some, ii (K + 3) (by omega), Option.bind_some, ee (K + 3) (by omega), Option.bind_some, if_pos rfl, show (r3 != r3) = false by simp]
    exact j0
end Go.Proofs.YtobboonnfocalaaGreatDoor.Pure
