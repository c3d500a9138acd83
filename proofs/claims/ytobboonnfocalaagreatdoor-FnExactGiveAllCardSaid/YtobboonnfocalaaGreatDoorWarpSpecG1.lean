/- A warp's validity: the reference's. Conditions: none. -/
import Derived.Test.YtobboonnfocalaaGreatDoorWarpPureG1
import Derived.Test.YtobboonnfocalaaGreatDoorPG1x0
import Derived.Test.YtobboonnfocalaaGreatDoorPG1x1
set_option linter.unusedVariables false
set_option linter.unusedSimpArgs false
namespace Go.Proofs.YtobboonnfocalaaGreatDoor.Base
open Go.RowKit Go.Proofs.YtobboonnfocalaaGreatDoor.PG1 Go.Proofs.YtobboonnfocalaaGreatDoorW.PrintWords Go.Proofs.YtobboonnfocalaaGreatDoorW.PrintLast Go.Proofs.YtobboonnfocalaaGreatDoorW.PrintMore

theorem spec_mask (t : Int) (ht : 0 ≤ t ∧ t ≤ 4294967295) (k : Nat) (hk : 40 < k) : spec_l03Mask.f k t = some (decide (t < 256)) := by
  unfold spec_l03Mask.f
  obtain ⟨x, rfl⟩ := Int.eq_ofNat_of_zero_le ht.1
  by_cases h0 : x = 0
  · subst h0
    have h1 : spec_Highest.f k ((0 : Nat) : Int) = some (-1) := by
      unfold spec_Highest.f
      rw [spec_bitList 0 (by omega) k hk, Option.bind_some, bitList_zero, if_pos (by simp)]
    rw [h1, Option.bind_some]
    simp
  · rw [spec_highest x h0 (by omega) k hk, Option.bind_some]
    have h8 : x.log2 < 8 ↔ x < 256 := Nat.log2_lt h0 (k := 8)
    generalize x.log2 = y at h8 ⊢
    rw [show decide ((y : Int) < 8) = decide ((x : Int) < 256) from decide_eq_decide.2 (by omega)]
theorem large_jo (k : Nat) (x1 ph : Int) (b : Bool) (c : Int) (vals got : List Int) (t p1 pr he seen : Int) :
    spec_l07LargeOk.j1 (k + 1) x1 ph b c vals got t p1 pr he seen = some (if b = true then decide (he < x1) else if ph = 2 then decide (0 < he) else if ph = 3 then decide (he = x1) else false) := by
  rw [spec_l07LargeOk.j1]
  cases b
  · rw [if_neg Bool.false_ne_true, if_neg Bool.false_ne_true]
    by_cases z2 : ph = 2
    · rw [if_pos z2, if_pos z2]
    · by_cases z3 : ph = 3
      · rw [if_neg z2, if_neg z2, if_pos z3, if_pos z3]; rfl
      · rw [if_neg z2, if_neg z2, if_neg z3, if_neg z3]
  · rw [if_pos rfl, if_pos rfl]
theorem spec_large (c : Int) (vals got : List Int) (t ph pr he seen r ch : Int) (hs : seen = 0) (hr : 0 ≤ r ∧ r ≤ 16) (hch : 0 ≤ ch ∧ ch ≤ 16) (hph : 0 ≤ ph) (hpr : 0 ≤ pr ∧ pr ≤ ch) (hhe : 0 ≤ he) (k : Nat) (hk : 3 < k) :
    spec_l07LargeOk.f k c vals got t ph pr he seen r ch = some (large r ph pr he seen ch) := by
  obtain ⟨k, rfl⟩ : ∃ m, k = m + 2 := ⟨k - 2, by omega⟩
  have hw : wrap64 (pr + r) = pr + r := w64 (by omega) (by omega)
  have dead : spec_l07LargeOk.j0 (k + 2) r true c vals got t ph pr he seen = some false := by rw [spec_l07LargeOk.j0, if_pos rfl]
  have go : spec_l07LargeOk.j0 (k + 2) r false c vals got t ph pr he seen = some (if ph = 0 ∨ ph = 1 then decide (he < r) else if ph = 2 then decide (0 < he) else if ph = 3 then decide (he = r) else false) := by
    rw [spec_l07LargeOk.j0, if_neg Bool.false_ne_true]
    by_cases z0 : ph = 0
    · rw [if_pos z0, large_jo, show (ph == 0) = true by simp [z0], if_pos rfl, if_pos (show ph = 0 ∨ ph = 1 from Or.inl z0)]
    · rw [if_neg z0, large_jo]
      by_cases z1 : ph = 1
      · rw [show (ph == 1) = true by simp [z1], if_pos rfl, if_pos (show ph = 0 ∨ ph = 1 from Or.inr z1)]
      · rw [show (ph == 1) = false by simp [z1], if_neg Bool.false_ne_true, if_neg (show ¬ (ph = 0 ∨ ph = 1) from fun h => h.elim z0 z1)]
  unfold spec_l07LargeOk.f large
  by_cases c1 : he > r
  · rw [if_pos c1, dead, if_neg (show ¬ ((0 ≤ ph ∧ ph ≤ 3) ∧ pr ≤ ch ∧ (0 ≤ he ∧ he ≤ r) ∧ seen = 0) from fun h => by omega)]
  · rw [if_neg c1, hw]
    by_cases cp : ph ≤ 3
    · rw [if_pos (show (0 ≤ ph ∧ ph ≤ 3) ∧ pr ≤ ch ∧ (0 ≤ he ∧ he ≤ r) ∧ seen = 0 from ⟨⟨hph, cp⟩, hpr.2, ⟨hhe, by omega⟩, hs⟩)]
      by_cases c2 : (0 < he ∨ ph = 1) ∧ ch < pr + r
      · rw [if_pos c2]
        by_cases c3 : he > 0
        · rw [if_pos c3, decide_eq_true (show pr + r > ch from c2.2), dead]
        · rw [if_neg c3, if_pos (show ph = 1 by omega), decide_eq_true (show pr + r > ch from c2.2), dead]
      · rw [if_neg c2]
        have e : (if ph = 0 ∨ ph = 1 then decide (he < r) else if ph = 2 then decide (0 < he) else if ph = 3 then decide (he = r) else false) = (if ph = 2 then decide (0 < he) else if ph = 3 then decide (he = r) else decide (he < r)) := by
          by_cases z2 : ph = 2
          · rw [if_neg (by omega), if_pos z2, if_pos z2]
          · by_cases z3 : ph = 3
            · rw [if_neg (by omega), if_neg z2, if_pos z3, if_neg z2, if_pos z3]
            · rw [if_pos (by omega), if_neg z2, if_neg z3]
        by_cases c3 : he > 0
        · rw [if_pos c3, decide_eq_false (show ¬ pr + r > ch from fun h => c2 ⟨Or.inl c3, h⟩), go, e]
        · rw [if_neg c3]
          by_cases c4 : ph = 1
          · rw [if_pos c4, decide_eq_false (show ¬ pr + r > ch from fun h => c2 ⟨Or.inr c4, h⟩), go, e]
          · rw [if_neg c4, go, e]
    · rw [if_neg (show ¬ ((0 ≤ ph ∧ ph ≤ 3) ∧ pr ≤ ch ∧ (0 ≤ he ∧ he ≤ r) ∧ seen = 0) from fun h => by omega)]
      have c4 : ¬ ph = 1 := by omega
      rw [if_neg c4, go, if_neg (show ¬ (ph = 0 ∨ ph = 1) by omega), if_neg (show ¬ ph = 2 by omega), if_neg (show ¬ ph = 3 by omega)]
      by_cases c3 : he > 0
      · rw [if_pos c3]
        by_cases c5 : ch < pr + r
        · rw [decide_eq_true (show pr + r > ch from c5), dead]
        · rw [decide_eq_false (show ¬ pr + r > ch from c5), go, if_neg (show ¬ (ph = 0 ∨ ph = 1) by omega), if_neg (show ¬ ph = 2 by omega), if_neg (show ¬ ph = 3 by omega)]
      · rw [if_neg c3]

/-- The reference's body, for a lead v. -/
theorem spec_body (c : Int) (vals got : List Int) (t v ph pr he seen ch : Int) (hc : c = 1 ∧ 1 ≤ v ∧ v ≤ 256 ∨ c = 2 ∧ 0 ≤ v ∧ v ≤ 4095) (hch : 0 ≤ ch ∧ ch ≤ 16) (hph : 0 ≤ ph) (hpr : 0 ≤ pr ∧ pr ≤ ch) (hhe : 0 ≤ he ∧ he ≤ 16) (hs : 0 ≤ seen ∧ seen ≤ 4294967295)
    (b : Bool) (hb : b = decide (c = 1 ∧ v > 16)) (k : Nat) (hk : 200 < k) : spec_WarpOk.j4 k ch v b c vals got t ph pr he seen = some (bodyOk c v ph pr he seen ch) := by
  obtain ⟨k, rfl⟩ : ∃ m, k = m + 2 := ⟨k - 2, by omega⟩
  have dead : ∀ q : Bool, q = false → spec_WarpOk.j5 (k + 1) ch v b true c vals got t ph pr he seen = some q := by
    rintro q rfl
    rw [spec_WarpOk.j5, if_pos rfl]
  have hw : wrap64 (16 * ch) = 16 * ch := w64 (by omega) (by omega)
  have hw2 : wrap64 (pr + he) = pr + he := w64 (by omega) (by omega)
  unfold bodyOk
  rw [spec_WarpOk.j4]
  by_cases c2 : c = 2
  · subst c2
    have hv : 0 ≤ v := by omega
    have ht : Int.tmod v 16 = v % 16 := Int.tmod_eq_emod_of_nonneg hv
    have hb0 : b = false := by rw [hb, decide_eq_false (by omega)]
    subst hb0
    have go : spec_WarpOk.j5 (k + 1) ch v false false 2 vals got t ph pr he seen = some (if ph = 0 then decide (pr = 0 ∧ he = 0) else if ph = 1 then decide (pr = 0 ∧ he = 0 ∧ v < 16 * ch) && gives seen (v % 16) else if ph = 2 then decide (1 ≤ he ∧ pr + he ≤ ch) else false) := by
      rw [spec_WarpOk.j5, if_neg Bool.false_ne_true, if_neg Bool.false_ne_true, if_neg (show ¬ (2 : Int) = 1 by omega)]
      by_cases z0 : ph = 0
      · rw [if_pos z0, if_pos z0]
        by_cases h1 : pr = 0
        · rw [if_pos h1, beq_dec, show decide (he = 0) = decide (pr = 0 ∧ he = 0) from decide_eq_decide.2 (by omega)]
        · rw [if_neg h1, decide_eq_false (fun h => h1 h.1)]
      · rw [if_neg z0, if_neg z0]
        by_cases z1 : ph = 1
        · rw [if_pos z1, if_pos z1]
          by_cases h1 : pr = 0
          · by_cases h2 : he = 0
            · rw [if_pos h1, if_pos h2, hw]
              by_cases h3 : v < 16 * ch
              · rw [if_pos h3, ht, spec_gives seen _ hs.1 hs.2 k (by omega), Option.bind_some, decide_eq_true ⟨h1, h2, h3⟩, Bool.true_and]
              · rw [if_neg h3, decide_eq_false (fun h => h3 h.2.2), Bool.false_and]
            · rw [if_pos h1, if_neg h2, decide_eq_false (fun h => h2 h.2.1), Bool.false_and]
          · rw [if_neg h1, decide_eq_false (fun h => h1 h.1), Bool.false_and]
        · rw [if_neg z1, if_neg z1]
          by_cases z2 : ph = 2
          · rw [if_pos z2, if_pos z2]
            by_cases h1 : he > 0
            · rw [if_pos h1, hw2, show decide (pr + he ≤ ch) = decide (1 ≤ he ∧ pr + he ≤ ch) from decide_eq_decide.2 (by omega)]
            · rw [if_neg h1, decide_eq_false (by omega)]
          · rw [if_neg z2, if_neg z2]
    rw [if_pos rfl]
    unfold giving
    by_cases z1 : ph = 1
    · rw [if_pos z1, if_neg Bool.false_ne_true, go, if_neg (show ¬ ph = 0 by omega), if_pos z1, if_neg (show ¬ ph = 0 by omega), if_pos z1]
    · rw [if_neg z1]
      by_cases s0 : seen = 0
      · rw [show (seen != 0) = false by simp [s0], go]
        by_cases z0 : ph = 0
        · rw [if_pos z0, if_pos z0, show decide (pr = 0 ∧ he = 0) = decide (pr = 0 ∧ he = 0 ∧ seen = 0) from decide_eq_decide.2 (by omega)]
        · rw [if_neg z0, if_neg z1, if_neg z0, if_neg z1]
          by_cases z2 : ph = 2
          · rw [if_pos z2, if_pos z2, show decide (1 ≤ he ∧ pr + he ≤ ch) = decide (1 ≤ he ∧ pr + he ≤ ch ∧ seen = 0) from decide_eq_decide.2 (by omega)]
          · rw [if_neg z2, if_neg z2]
      · rw [show (seen != 0) = true by simp [s0]]
        apply dead
        by_cases z0 : ph = 0
        · rw [if_pos z0, decide_eq_false (fun h => s0 h.2.2)]
        · rw [if_neg z0, if_neg z1]
          by_cases z2 : ph = 2
          · rw [if_pos z2, decide_eq_false (fun h => s0 h.2.2)]
          · rw [if_neg z2]
  · have c1 : c = 1 := by omega
    subst c1
    rw [if_neg c2]
    by_cases hv16 : v ≤ 16
    · have hb0 : b = false := by rw [hb, decide_eq_false (by omega)]
      subst hb0
      have go : spec_WarpOk.j5 (k + 1) ch v false false 1 vals got t ph pr he seen = some (if he = 0 then (if ph = 0 then true else if ph = 1 then decide (pr < ch ∧ 0 < room seen (cls v)) else false) else false) := by
        rw [spec_WarpOk.j5, if_neg Bool.false_ne_true, if_neg Bool.false_ne_true, if_pos rfl]
        by_cases h1 : he = 0
        · rw [if_pos h1, if_pos h1]
          by_cases z0 : ph = 0
          · rw [if_pos z0, if_pos z0]
          · rw [if_neg z0, if_neg z0]
            by_cases z1 : ph = 1
            · rw [if_pos z1, if_pos z1]
              by_cases h3 : pr < ch
              · rw [if_pos h3, spec_cls (by omega) k (by omega), Option.bind_some, spec_room seen (cls v) hs.1 hs.2 k (by omega), Option.bind_some, show decide (room seen (cls v) > 0) = decide (pr < ch ∧ 0 < room seen (cls v)) from decide_eq_decide.2 (by omega)]
              · rw [if_neg h3, decide_eq_false (fun h => h3 h.1)]
            · rw [if_neg z1, if_neg z1]
        · rw [if_neg h1, if_neg h1]
      rw [if_pos hv16]
      unfold small
      by_cases z1 : ph = 1
      · rw [if_pos z1, if_neg Bool.false_ne_true, go, if_neg (show ¬ ph = 0 by omega), if_pos z1]
        by_cases h1 : he = 0
        · rw [if_pos h1, if_pos (show he = 0 ∧ pr ≤ ch from ⟨h1, hpr.2⟩), if_neg (show ¬ ph = 0 by omega)]
        · rw [if_neg h1, if_neg (show ¬ (he = 0 ∧ pr ≤ ch) from fun h => h1 h.1)]
      · rw [if_neg z1]
        by_cases s0 : seen = 0
        · rw [show (seen != 0) = false by simp [s0], go, if_neg z1]
          by_cases h1 : he = 0
          · rw [if_pos h1, if_pos (show he = 0 ∧ pr ≤ ch from ⟨h1, hpr.2⟩), decide_eq_true s0]
          · rw [if_neg h1, if_neg (show ¬ (he = 0 ∧ pr ≤ ch) from fun h => h1 h.1)]
        · rw [show (seen != 0) = true by simp [s0]]
          apply dead
          rw [if_neg z1, decide_eq_false s0]
          by_cases h1 : he = 0 ∧ pr ≤ ch
          · rw [if_pos h1]
            by_cases z0 : ph = 0
            · rw [if_pos z0]
            · rw [if_neg z0]
          · rw [if_neg h1]
    · have hb1 : b = true := by rw [hb, decide_eq_true (by omega)]
      subst hb1
      rw [if_neg hv16, if_pos rfl]
      have hr := chunksFor_range v
      have e : ∀ q : Bool, (if ph = 1 then spec_WarpOk.j5 (k + 1) ch v true q 1 vals got t ph pr he seen else spec_WarpOk.j5 (k + 1) ch v true q 1 vals got t ph pr he seen) = spec_WarpOk.j5 (k + 1) ch v true q 1 vals got t ph pr he seen := fun q => by split <;> rfl
      rw [e]
      by_cases s0 : seen = 0
      · rw [show (seen != 0) = false by simp [s0], spec_WarpOk.j5, if_neg Bool.false_ne_true, if_pos rfl, spec_chunks (by omega), Option.bind_some, spec_large 1 vals got t ph pr he seen _ ch s0 hr hch hph hpr hhe.1 k (by omega), Option.bind_some]
      · rw [show (seen != 0) = true by simp [s0]]
        apply dead
        unfold large
        rw [if_neg (fun h => s0 h.2.2.2)]

/-- Its search: whether each lane of the mask asks. -/
theorem spec_in_loop (c : Int) (vals got A T : List Int) (t ph pr he seen ch : Int) (i : Nat) (hi : i < T.length) (hA : A.length ≤ 100) : ∀ (d j : Nat) (b : Bool) (k : Nat), j + d = A.length →
    spec_WarpOk.l1 (k + d + 1) ch A T (i : Int) b (j : Int) c vals got t ph pr he seen = if b = true ∨ T[i] ∈ A.drop j then spec_WarpOk.l0 k ch A T (wrap64 ((i : Int) + 1)) c vals got t ph pr he seen else some false
  | 0, j, b, k, hd => by
    rw [Nat.add_zero, spec_WarpOk.l1, if_neg (show ¬ ((j : Int) < (A.length : Int)) by omega), List.drop_eq_nil_of_le (by omega)]
    cases b <;> simp
  | d + 1, j, b, k, hd => by
    have hj : j < A.length := by omega
    have ih := fun b => spec_in_loop c vals got A T t ph pr he seen ch i hi hA d (j + 1) b k (by omega)
    have hw : wrap64 ((j : Int) + 1) = ((j + 1 : Nat) : Int) := by rw [w64 (by omega) (by omega)]; omega
    rw [show k + (d + 1) + 1 = (k + d + 1) + 1 by omega, spec_WarpOk.l1, if_pos (show (j : Int) < (A.length : Int) by omega), hw, ih, ih, List.drop_eq_getElem_cons hj]
    cases b
    · rw [if_neg Bool.false_ne_true, if_pos (show (0 : Int) ≤ (j : Int) by omega), if_pos (show (0 : Int) ≤ (i : Int) by omega), if_pos (show (i : Int) < (T.length : Int) by omega), rdG A j hj, rdG T i hi]
      by_cases e : A[j] = T[i]
      · rw [if_pos (Or.inl (by simp [e])), if_pos (Or.inr (by rw [← e]; exact List.mem_cons_self))]
      · have e' : ¬ T[i] = A[j] := fun h => e h.symm
        simp only [show (A[j] == T[i]) = false by simp [e], Bool.false_eq_true, false_or, List.mem_cons, e']
    · rw [if_pos rfl, if_pos (Or.inl rfl), if_pos (Or.inl rfl)]
theorem spec_all_loop (c : Int) (vals got A T : List Int) (t ph pr he seen ch : Int) (hT : T.length ≤ 100) (hA : A.length ≤ 100) (R : Option Bool) (hR : ∀ k, 300 < k → spec_WarpOk.l0 k ch A T (T.length : Int) c vals got t ph pr he seen = R) :
    ∀ (d i k : Nat), i + d = T.length → 300 + 200 * d < k → spec_WarpOk.l0 k ch A T (i : Int) c vals got t ph pr he seen = if ∀ x ∈ T.drop i, x ∈ A then R else some false
  | 0, i, k, hd, hk => by
    rw [show i = T.length by omega, hR k (by omega), List.drop_eq_nil_of_le (by omega), if_pos (by simp)]
  | d + 1, i, k, hd, hk => by
    have hi : i < T.length := by omega
    obtain ⟨m, rfl⟩ : ∃ m, k = m + A.length + 1 + 1 := ⟨k - A.length - 2, by omega⟩
    have ih := spec_all_loop c vals got A T t ph pr he seen ch hT hA R hR d (i + 1) m (by omega) (by omega)
    have hw : wrap64 ((i : Int) + 1) = ((i + 1 : Nat) : Int) := by rw [w64 (by omega) (by omega)]; omega
    have h1 := spec_in_loop c vals got A T t ph pr he seen ch i hi hA A.length 0 false m (by omega)
    rw [hw, ih] at h1
    rw [spec_WarpOk.l0, if_pos (show (i : Int) < (T.length : Int) by omega), show (0 : Int) = ((0 : Nat) : Int) by rfl, h1, List.drop_zero, List.drop_eq_getElem_cons hi]
    by_cases e : T[i] ∈ A
    · rw [if_pos (Or.inr e)]
      by_cases f : ∀ x ∈ T.drop (i + 1), x ∈ A
      · rw [if_pos f, if_pos (by intro x hx; rcases List.mem_cons.1 hx with rfl | hx; exact e; exact f x hx)]
      · rw [if_neg f, if_neg (fun h => f fun x hx => h x (List.mem_cons_of_mem _ hx))]
    · rw [if_neg (by rintro (h | h); exact Bool.false_ne_true h; exact e h), if_neg (fun h => e (h _ List.mem_cons_self))]
theorem spec_none_loop (c : Int) (vals got A T : List Int) (t ph pr he seen ch : Int) (hT : T.length ≤ 100) (hA : A.length ≤ 100) :
    ∀ (d i k : Nat), i + d = T.length → 300 + 200 * d < k → (¬ ∀ x ∈ T.drop i, x ∈ A) → spec_WarpOk.l0 k ch A T (i : Int) c vals got t ph pr he seen = some false
  | 0, i, k, hd, hk, hn => by
    rw [List.drop_eq_nil_of_le (by omega)] at hn
    exact absurd (by simp) hn
  | d + 1, i, k, hd, hk, hn => by
    have hi : i < T.length := by omega
    obtain ⟨m, rfl⟩ : ∃ m, k = m + A.length + 1 + 1 := ⟨k - A.length - 2, by omega⟩
    have ih := spec_none_loop c vals got A T t ph pr he seen ch hT hA d (i + 1) m (by omega) (by omega)
    have hw : wrap64 ((i : Int) + 1) = ((i + 1 : Nat) : Int) := by rw [w64 (by omega) (by omega)]; omega
    have h1 := spec_in_loop c vals got A T t ph pr he seen ch i hi hA A.length 0 false m (by omega)
    rw [hw] at h1
    rw [spec_WarpOk.l0, if_pos (show (i : Int) < (T.length : Int) by omega), show (0 : Int) = ((0 : Nat) : Int) by rfl, h1, List.drop_zero]
    rw [List.drop_eq_getElem_cons hi] at hn
    by_cases e : T[i] ∈ A
    · rw [if_pos (Or.inr e)]
      exact ih fun h => hn fun x hx => by
        rcases List.mem_cons.1 hx with rfl | hx
        · exact e
        · exact h x hx
    · rw [if_neg (by rintro (h | h); exact Bool.false_ne_true h; exact e h)]
theorem spec_warp (c : Int) (vals got : List Int) (t ph pr he seen ch : Int) (ht : 0 ≤ t ∧ t ≤ 4294967295) (hs : 0 ≤ seen ∧ seen ≤ 4294967295) (k : Nat) (hk : 8000 < k) :
    spec_WarpOk.f k c vals got t ph pr he seen ch = some (warpOk c vals got t ph pr he seen ch) := by
  obtain ⟨k, rfl⟩ : ∃ m, k = m + 3 := ⟨k - 3, by omega⟩
  have kill : ∀ q : Prop, [Decidable q] → ¬ q → spec_WarpOk.j0 (k + 3) ch true c vals got t ph pr he seen = some (if q then (if c = 0 then decide (t = 0 ∧ ph = 0 ∧ pr = 0 ∧ he = 0 ∧ seen = 0) else if reqOk c vals = true ∧ t ≠ 0 ∧ allAsk c vals t ∧ 0 ≤ pr then bodyOk c (leadOf vals t) ph pr he seen ch else false) else false) := by
    intro q _ hq
    rw [if_neg hq, spec_WarpOk.j0, if_pos rfl]
  unfold spec_WarpOk.f warpOk spec_l03Row.f
  by_cases g0 : ch < 0
  · rw [if_pos g0]
    exact kill _ (fun h => by omega)
  · by_cases g1 : ch > 16
    · rw [if_neg g0, if_pos g1]
      exact kill _ (fun h => by omega)
    · have c0 : 0 ≤ ch ∧ ch ≤ 16 := by omega
      rw [if_neg g0, if_neg g1, Option.bind_some]
      by_cases c1 : vals.length = 8
      · rw [show ((vals.length : Int) == 8) = true by simp; omega, if_pos rfl, Option.bind_some]
        by_cases c2 : got.length = 8
        · rw [show ((got.length : Int) == 8) = true by simp; omega, if_pos rfl, spec_mask t ht _ (by omega), Option.bind_some]
          by_cases c3 : t < 256
          · rw [decide_eq_true c3, if_pos (show (0 ≤ ch ∧ ch ≤ 16) ∧ vals.length = 8 ∧ got.length = 8 ∧ t < 256 from ⟨c0, c1, c2, c3⟩), Bool.not_true, spec_WarpOk.j0, if_neg Bool.false_ne_true]
            by_cases d0 : c = 0
            · rw [if_pos d0, if_pos d0, and3]
              by_cases e1 : t = 0
              · rw [if_pos e1]
                by_cases e2 : ph = 0
                · rw [if_pos e2]
                  congr 1
                  rw [decide_eq_decide]
                  omega
                · rw [if_neg e2, decide_eq_false (fun h => e2 h.2.1)]
              · rw [if_neg e1, decide_eq_false (fun h => e1 h.1)]
            · rw [if_neg d0, if_neg d0, spec_req c vals _ (by omega), Option.bind_some]
              have fail : ∀ q : Bool, q = false → spec_WarpOk.j1 (k + 2) ch true c vals got t ph pr he seen = some q := by
                rintro q rfl
                rw [spec_WarpOk.j1, if_pos rfl]
              by_cases d1 : reqOk c vals = true
              · rw [if_pos d1]
                by_cases d2 : t = 0
                · rw [if_pos d2]
                  exact fail _ (by rw [if_neg (fun h => h.2.1 d2)])
                · rw [if_neg d2]
                  -- what the body needs
                  have hbad : (ph < 0 ∨ pr < 0 ∨ he < 0 ∨ pr > ch ∨ he > 16) → (if reqOk c vals = true ∧ t ≠ 0 ∧ allAsk c vals t ∧ 0 ≤ pr then bodyOk c (leadOf vals t) ph pr he seen ch else false) = false := by
                    intro hx
                    by_cases d3 : reqOk c vals = true ∧ t ≠ 0 ∧ allAsk c vals t ∧ 0 ≤ pr
                    · rw [if_pos d3]
                      have hr := chunksFor_range (leadOf vals t)
                      unfold bodyOk giving small large
                      by_cases z : c = 2
                      · rw [if_pos z]
                        by_cases z0 : ph = 0
                        · rw [if_pos z0, decide_eq_false (by omega)]
                        · rw [if_neg z0]
                          by_cases z1 : ph = 1
                          · rw [if_pos z1, decide_eq_false (by omega), Bool.false_and]
                          · rw [if_neg z1]
                            by_cases z2 : ph = 2
                            · rw [if_pos z2, decide_eq_false (by omega)]
                            · rw [if_neg z2]
                      · rw [if_neg z]
                        by_cases z1 : leadOf vals t ≤ 16
                        · rw [if_pos z1]
                          by_cases z2 : he = 0 ∧ pr ≤ ch
                          · rw [if_pos z2, if_neg (show ¬ ph = 0 by omega), if_neg (show ¬ ph = 1 by omega)]
                          · rw [if_neg z2]
                        · rw [if_neg z1, if_neg (fun h => by omega)]
                    · rw [if_neg d3]
                  by_cases p1 : ph < 0
                  · rw [if_pos p1]; exact fail _ (hbad (by omega))
                  · rw [if_neg p1]
                    by_cases p2 : pr < 0
                    · rw [if_pos p2]; exact fail _ (hbad (by omega))
                    · rw [if_neg p2]
                      by_cases p3 : he < 0
                      · rw [if_pos p3]; exact fail _ (hbad (by omega))
                      · rw [if_neg p3]
                        by_cases p4 : pr > ch
                        · rw [if_pos p4]; exact fail _ (hbad (by omega))
                        · rw [if_neg p4]
                          by_cases p5 : he > 16
                          · rw [decide_eq_true p5]; exact fail _ (hbad (by omega))
                          · rw [decide_eq_false p5, spec_WarpOk.j1, if_neg Bool.false_ne_true, spec_asks c vals c1 _ (by omega), Option.bind_some]
                            have hbl := spec_bitList t.toNat (by omega) (k + 1) (by omega)
                            rw [show ((t.toNat : Nat) : Int) = t by omega] at hbl
                            rw [hbl, Option.bind_some]
                            obtain ⟨l, hfirst⟩ := bitList_first (x := t.toNat) (by omega) (by omega)
                            have hTl := bitList_len t.toNat
                            have hAl : (ons 0 (askBits c vals)).length ≤ 100 := by have := ons_length (askBits c vals) 0; rw [askBits_length] at this; omega
                            by_cases d3 : allAsk c vals t
                            · obtain ⟨j, hj1, hj2, hv⟩ := lead_facts c1 d1 d2 ht d3
                              have hR : ∀ k, 300 < k → spec_WarpOk.l0 k ch (ons 0 (askBits c vals)) (bitList t.toNat) ((bitList t.toNat).length : Int) c vals got t ph pr he seen = some (bodyOk c (leadOf vals t) ph pr he seen ch) := by
                                intro k hk
                                obtain ⟨k, rfl⟩ : ∃ m, k = m + 1 := ⟨k - 1, by omega⟩
                                have h0 : rd (bitList t.toNat) 0 = (j : Int) := by rw [hfirst, ← hj1]; rfl
                                have hlen : 0 < (bitList t.toNat).length := by rw [hfirst]; simp
                                have hl : rd vals (j : Int) = leadOf vals t := by unfold leadOf; rw [hj1]
                                rw [spec_WarpOk.l0, if_neg (show ¬ (((bitList t.toNat).length : Int) < ((bitList t.toNat).length : Int)) by omega), if_pos (by omega), h0, if_pos (by omega), if_pos (by omega), hl]
                                by_cases z : c = 1
                                · rw [if_pos z]
                                  exact spec_body c vals got t _ ph pr he seen ch hv c0 (by omega) (by omega) (by omega) hs _ (decide_eq_decide.2 (by omega)) k (by omega)
                                · rw [if_neg z]
                                  exact spec_body c vals got t _ ph pr he seen ch hv c0 (by omega) (by omega) (by omega) hs _ (by rw [decide_eq_false (fun h => z h.1)]) k (by omega)
                              have h := spec_all_loop c vals got _ _ t ph pr he seen ch (by omega) hAl _ hR (bitList t.toNat).length 0 (k + 1) (by omega) (by omega)
                              rw [Int.natCast_zero] at h
                              rw [h, List.drop_zero, if_pos (show ∀ x ∈ bitList t.toNat, x ∈ ons 0 (askBits c vals) from d3), if_pos (show reqOk c vals = true ∧ t ≠ 0 ∧ allAsk c vals t ∧ 0 ≤ pr from ⟨d1, d2, d3, by omega⟩)]
                            · have h := spec_none_loop c vals got (ons 0 (askBits c vals)) (bitList t.toNat) t ph pr he seen ch (by omega) hAl (bitList t.toNat).length 0 (k + 1) (by omega) (by omega) (by rw [List.drop_zero]; exact d3)
                              rw [Int.natCast_zero] at h
                              rw [h, if_neg (fun h => d3 h.2.2.1)]
              · rw [if_neg d1]
                exact fail _ (by rw [if_neg (fun h => d1 h.1)])
          · rw [decide_eq_false c3, Bool.not_false]
            exact kill _ (fun h => c3 h.2.2.2)
        · rw [show ((got.length : Int) == 8) = false by simp; omega, if_neg Bool.false_ne_true]
          exact kill _ (fun h => c2 h.2.2.1)
      · rw [show ((vals.length : Int) == 8) = false by simp; omega, if_neg Bool.false_ne_true]
        exact kill _ (fun h => c1 h.2.1)
end Go.Proofs.YtobboonnfocalaaGreatDoor.Base
