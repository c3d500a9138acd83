/- Who owns which chunk: the reference's filling and the program's, in plain Lean. Conditions: none. -/
import Derived.Test.YtobboonnfocalaaGreatDoorBaseG1
set_option linter.unusedVariables false
set_option linter.unusedSimpArgs false
namespace Go.Proofs.YtobboonnfocalaaGreatDoor.Own

/-- d chunks from c on are given to v; each must be there and without an owner. -/
def fillN (v : Int) : Nat → List Int → Nat → Bool × List Int
  | 0, l, _ => (true, l)
  | d + 1, l, c => if c < l.length then (if l.getD c 0 = -1 then fillN v d (l.set c v) (c + 1) else (false, [])) else (false, [])
/-- The same, and each must be held (H). -/
def ownN (H : Nat → Bool) (v : Int) : Nat → List Int → Nat → Bool × List Int
  | 0, l, _ => (true, l)
  | d + 1, l, c => if c < l.length then (if l.getD c 0 = -1 then (if H c = true then ownN H v d (l.set c v) (c + 1) else (false, [])) else (false, [])) else (false, [])
theorem getD_set (l : List Int) (i j : Nat) (v : Int) (h : i < l.length) : (l.set i v).getD j 0 = if j = i then v else l.getD j 0 := by
  rw [List.getD_eq_getElem?_getD, List.getElem?_set]
  by_cases c : i = j
  · subst c
    rw [if_pos rfl, if_pos h, if_pos rfl]
    rfl
  · rw [if_neg c, if_neg (fun e => c e.symm), List.getD_eq_getElem?_getD]
theorem fill_len (v : Int) : ∀ (d : Nat) (l : List Int) (c : Nat), (fillN v d l c).1 = true → (fillN v d l c).2.length = l.length
  | 0, _, _, _ => rfl
  | d + 1, l, c, h => by
    unfold fillN at h ⊢
    by_cases h1 : c < l.length
    · rw [if_pos h1] at h ⊢
      by_cases h2 : l.getD c 0 = -1
      · rw [if_pos h2] at h ⊢
        rw [fill_len v d _ _ h, List.length_set]
      · rw [if_neg h2] at h; cases h
    · rw [if_neg h1] at h; cases h
theorem fill_iff (v : Int) (hv : v ≠ -1) : ∀ (d : Nat) (l : List Int) (c : Nat), (fillN v d l c).1 = true ↔ ∀ j, c ≤ j → j < c + d → j < l.length ∧ l.getD j 0 = -1
  | 0, l, c => by simp only [fillN, true_iff]; intro j h1 h2; omega
  | d + 1, l, c => by
    unfold fillN
    by_cases h1 : c < l.length
    · rw [if_pos h1]
      by_cases h2 : l.getD c 0 = -1
      · rw [if_pos h2, fill_iff v hv d]
        constructor
        · intro h j k1 k2
          by_cases e : j = c
          · subst e; exact ⟨h1, h2⟩
          · have := h j (by omega) (by omega)
            rw [List.length_set, getD_set _ _ _ _ h1, if_neg e] at this
            exact this
        · intro h j k1 k2
          have := h j (by omega) (by omega)
          rw [List.length_set, getD_set _ _ _ _ h1, if_neg (by omega)]
          exact this
      · rw [if_neg h2]
        constructor
        · intro h; cases h
        · intro h; exact absurd (h c (Nat.le_refl _) (by omega)).2 h2
    · rw [if_neg h1]
      constructor
      · intro h; cases h
      · intro h; exact absurd (h c (Nat.le_refl _) (by omega)).1 h1
theorem fill_get (v : Int) : ∀ (d : Nat) (l : List Int) (c : Nat), (fillN v d l c).1 = true → ∀ j, (fillN v d l c).2.getD j 0 = if c ≤ j ∧ j < c + d then v else l.getD j 0
  | 0, l, c, _, j => by rw [if_neg (by omega)]; rfl
  | d + 1, l, c, h, j => by
    unfold fillN at h ⊢
    by_cases h1 : c < l.length
    · rw [if_pos h1] at h ⊢
      by_cases h2 : l.getD c 0 = -1
      · rw [if_pos h2] at h ⊢
        rw [fill_get v d _ _ h j, getD_set _ _ _ _ h1]
        by_cases e : j = c
        · subst e; rw [if_neg (by omega), if_pos rfl, if_pos (by omega)]
        · rw [if_neg e]
          by_cases k : c + 1 ≤ j ∧ j < c + 1 + d
          · rw [if_pos k, if_pos (by omega)]
          · rw [if_neg k, if_neg (by omega)]
      · rw [if_neg h2] at h; cases h
    · rw [if_neg h1] at h; cases h
/-- The program's is the reference's where all of the run is held, and says no elsewhere. -/
theorem own_fill (H : Nat → Bool) (v : Int) : ∀ (d : Nat) (l : List Int) (c : Nat), (∀ j, c ≤ j → j < c + d → H j = true) → ownN H v d l c = fillN v d l c
  | 0, _, _, _ => rfl
  | d + 1, l, c, h => by
    unfold ownN fillN
    rw [if_pos (h c (Nat.le_refl _) (by omega)), own_fill H v d _ _ (fun j h1 h2 => h j (by omega) (by omega))]
theorem own_held (H : Nat → Bool) (v : Int) : ∀ (d : Nat) (l : List Int) (c : Nat), (ownN H v d l c).1 = true → ∀ j, c ≤ j → j < c + d → H j = true
  | 0, _, _, _, j, h1, h2 => by omega
  | d + 1, l, c, h, j, h1, h2 => by
    unfold ownN at h
    split at h
    · split at h
      · split at h
        · rename_i hH
          by_cases e : j = c
          · subst e; exact hH
          · exact own_held H v d _ _ h j (by omega) (by omega)
        · cases h
      · cases h
    · cases h
theorem own_eq (H : Nat → Bool) (v : Int) (d : Nat) (l : List Int) (c : Nat) (h : (ownN H v d l c).1 = true) : ownN H v d l c = fillN v d l c := own_fill H v d l c (own_held H v d l c h)

/-! ### the large blocks -/
/-- R: the run of the large block that a chunk begins (0 where it begins none). -/
def specHeads (R : Nat → Nat) : Nat → Nat → List Int → Bool × List Int
  | 0, _, l => (true, l)
  | m + 1, i, l => if (fillN (-2) (R i) l i).1 = true then specHeads R m (i + 1) (fillN (-2) (R i) l i).2 else (false, [])
def implHeads (H : Nat → Bool) (R : Nat → Nat) : Nat → Nat → List Int → Bool × List Int
  | 0, _, l => (true, l)
  | m + 1, i, l => if R i ≠ 0 then (if (ownN H (-2) (R i - 1) l (i + 1)).1 = true then implHeads H R m (i + 1) ((ownN H (-2) (R i - 1) l (i + 1)).2.set i (-2)) else (false, [])) else implHeads H R m (i + 1) l
theorem ext_getD {a b : List Int} (hl : a.length = b.length) (h : ∀ j, a.getD j 0 = b.getD j 0) : a = b := by
  apply List.ext_getElem hl
  intro i h1 h2
  have := h i
  rw [List.getD_eq_getElem?_getD, List.getD_eq_getElem?_getD, List.getElem?_eq_getElem h1, List.getElem?_eq_getElem h2] at this
  exact this
/-- The head's own chunk, first or last. -/
theorem fill_head {r i : Nat} {l : List Int} (hr : r ≠ 0) (hi : i < l.length) (h0 : l.getD i 0 = -1) (h : (fillN (-2) (r - 1) l (i + 1)).1 = true) : fillN (-2) r l i = (true, (fillN (-2) (r - 1) l (i + 1)).2.set i (-2)) := by
  have k1 := (fill_iff (-2) (by decide) _ _ _).1 h
  have k2 : (fillN (-2) r l i).1 = true := (fill_iff (-2) (by decide) _ _ _).2 (fun j h1 h2 => by
    by_cases e : j = i
    · subst e; exact ⟨hi, h0⟩
    · exact k1 j (by omega) (by omega))
  have e2 : (fillN (-2) r l i).2 = (fillN (-2) (r - 1) l (i + 1)).2.set i (-2) := by
    have l1 := fill_len (-2) _ _ _ h
    apply ext_getD
    · rw [fill_len (-2) _ _ _ k2, List.length_set, l1]
    · intro j
      rw [fill_get (-2) _ _ _ k2, getD_set _ _ _ _ (by rw [l1]; exact hi), fill_get (-2) _ _ _ h]
      by_cases e : j = i
      · subst e; rw [if_pos (by omega), if_pos rfl]
      · rw [if_neg e]
        by_cases k : i + 1 ≤ j ∧ j < i + 1 + (r - 1)
        · rw [if_pos k, if_pos (by omega)]
        · rw [if_neg k, if_neg (by omega)]
  rw [← e2, ← k2]
/-- Where the program goes through, so does the reference, to the same list. -/
theorem heads_to (H : Nat → Bool) (R : Nat → Nat) (hHR : ∀ i, R i ≠ 0 → H i = false) : ∀ (m i : Nat) (l l' : List Int), implHeads H R m i l = (true, l') → i + m = l.length → (∀ j, l.getD j 0 ≠ -1 → j < l.length → H j = true ∨ (j < i ∧ R j ≠ 0)) →
    specHeads R m i l = (true, l') ∧ l'.length = l.length ∧ (∀ j, l.getD j 0 ≠ -1 → l'.getD j 0 = l.getD j 0) ∧ (∀ j, i ≤ j → j < l.length → R j ≠ 0 → l'.getD j 0 = -2) ∧ (∀ j, l'.getD j 0 = l.getD j 0 ∨ l'.getD j 0 = -2) ∧ (∀ j, j < l.length → l'.getD j 0 ≠ -1 → H j = true ∨ R j ≠ 0)
  | 0, i, l, l', h, hm, hi => by
    obtain ⟨_, rfl⟩ := Prod.mk.inj h
    refine ⟨rfl, rfl, fun _ _ => rfl, fun j h1 h2 => by omega, fun _ => .inl rfl, fun j h1 h2 => ?_⟩
    rcases hi j h2 h1 with h | h
    · exact .inl h
    · exact .inr h.2
  | m + 1, i, l, l', h, hm, hi => by
    unfold implHeads at h
    unfold specHeads
    by_cases hr : R i = 0
    · rw [if_neg (fun e => e hr)] at h
      obtain ⟨a1, a2, a3, a4, a5, a6⟩ := heads_to H R hHR m (i + 1) l l' h (by omega) (fun j h1 h2 => by
        rcases hi j h1 h2 with k | k
        · exact .inl k
        · exact .inr ⟨by omega, k.2⟩)
      rw [hr]
      refine ⟨?_, a2, a3, fun j h1 h2 h3 => a4 j (by rcases Nat.lt_or_ge i j with q | q; omega; exact absurd hr (by rw [show i = j by omega]; exact h3)) h2 h3, a5, a6⟩
      simp only [fillN, if_true]
      exact a1
    · rw [if_pos hr] at h
      split at h
      · rename_i ht
        have hown := own_eq H (-2) _ _ _ ht
        have hheld := own_held H (-2) _ _ _ ht
        rw [hown] at h ht
        have hil : i < l.length := by omega
        have h0 : l.getD i 0 = -1 := by
          apply Classical.byContradiction
          intro hne
          rcases hi i hne hil with k | k
          · rw [hHR i hr] at k; cases k
          · omega
        have hf := fill_head hr hil h0 ht
        have k1 : (fillN (-2) (R i) l i).1 = true := by rw [hf]
        have e2 : (fillN (-2) (R i - 1) l (i + 1)).2.set i (-2) = (fillN (-2) (R i) l i).2 := by rw [hf]
        rw [e2] at h
        have g := fill_get (-2) _ _ _ k1
        have gl := fill_len (-2) _ _ _ k1
        have gi := (fill_iff (-2) (by decide) _ _ _).1 k1
        generalize hl1 : (fillN (-2) (R i) l i).2 = l1 at h g gl
        obtain ⟨a1, a2, a3, a4, a5, a6⟩ := heads_to H R hHR m (i + 1) l1 l' h (by omega) (fun j h1 h2 => by
          rw [g] at h1
          by_cases k : i ≤ j ∧ j < i + R i
          · by_cases e : j = i
            · subst e; exact .inr ⟨by omega, hr⟩
            · exact .inl (hheld j (by omega) (by omega))
          · rw [if_neg k] at h1
            rcases hi j h1 (by omega) with q | q
            · exact .inl q
            · exact .inr ⟨by omega, q.2⟩)
        rw [if_pos k1]
        refine ⟨a1, by omega, fun j hj => ?_, fun j h1 h2 h3 => ?_, fun j => ?_, fun j h1 h2 => a6 j (by omega) h2⟩
        · have : ¬ (i ≤ j ∧ j < i + R i) := fun k => hj (gi j k.1 k.2).2
          have q := g j
          rw [if_neg this] at q
          rw [a3 j (by rw [q]; exact hj), q]
        · by_cases e : j = i
          · subst e
            have q := g j
            rw [if_pos (by omega)] at q
            rw [a3 j (by rw [q]; decide), q]
          · exact a4 j (by omega) (by omega) h3
        · rcases a5 j with q | q
          · rw [q, g]
            by_cases k : i ≤ j ∧ j < i + R i
            · rw [if_pos k]; exact .inr rfl
            · rw [if_neg k]; exact .inl rfl
          · exact .inr q
      · cases h
/-- Where the reference goes through, each head's chunk was without an owner; what has an owner keeps it. -/
theorem spec_free (R : Nat → Nat) : ∀ (m i : Nat) (l l' : List Int), specHeads R m i l = (true, l') → l'.length = l.length ∧ (∀ j, i ≤ j → j < i + m → R j ≠ 0 → l.getD j 0 = -1) ∧ (∀ j, l.getD j 0 ≠ -1 → l'.getD j 0 = l.getD j 0)
  | 0, i, l, l', h => by
    obtain ⟨_, rfl⟩ := Prod.mk.inj h
    exact ⟨rfl, fun j h1 h2 => by omega, fun _ _ => rfl⟩
  | m + 1, i, l, l', h => by
    unfold specHeads at h
    split at h
    · rename_i k1
      have g := fill_get (-2) _ _ _ k1
      have gl := fill_len (-2) _ _ _ k1
      have gi := (fill_iff (-2) (by decide) _ _ _).1 k1
      generalize (fillN (-2) (R i) l i).2 = l1 at h g gl
      obtain ⟨a1, a2, a3⟩ := spec_free R m (i + 1) l1 l' h
      refine ⟨by omega, fun j h1 h2 h3 => ?_, fun j hj => ?_⟩
      · by_cases e : j = i
        · subst e; exact (gi j (Nat.le_refl _) (by omega)).2
        · have q := a2 j (by omega) (by omega) h3
          rw [g] at q
          split at q
          · cases q
          · exact q
      · have : ¬ (i ≤ j ∧ j < i + R i) := fun k => hj (gi j k.1 k.2).2
        have q := g j
        rw [if_neg this] at q
        rw [a3 j (by rw [q]; exact hj), q]
    · cases h
/-- Where the reference goes through and its last test stands, the program goes through to the same list. -/
theorem heads_from (H : Nat → Bool) (R : Nat → Nat) (M : List Int) (hM : ∀ j, j < M.length → M.getD j 0 = -2 → H j = true ∨ R j ≠ 0) : ∀ (m i : Nat) (l l' : List Int), specHeads R m i l = (true, l') → i + m = l.length → M.length = l.length → (∀ j, l'.getD j 0 ≠ -1 → M.getD j 0 = l'.getD j 0) → implHeads H R m i l = (true, l')
  | 0, i, l, l', h, _, _, _ => h
  | m + 1, i, l, l', h, hm, hML, hl' => by
    unfold specHeads at h
    unfold implHeads
    split at h
    · rename_i k1
      by_cases hr : R i = 0
      · rw [if_neg (fun e => e hr)]
        rw [hr] at h
        exact heads_from H R M hM m (i + 1) l l' h (by omega) hML hl'
      · rw [if_pos hr]
        have g := fill_get (-2) _ _ _ k1
        have gl := fill_len (-2) _ _ _ k1
        have gi := (fill_iff (-2) (by decide) _ _ _).1 k1
        have k0 : (fillN (-2) (R i - 1) l (i + 1)).1 = true := (fill_iff (-2) (by decide) _ _ _).2 (fun j h1 h2 => gi j (by omega) (by omega))
        have hf := fill_head hr (by omega) (gi i (Nat.le_refl _) (by omega)).2 k0
        have e2 : (fillN (-2) (R i - 1) l (i + 1)).2.set i (-2) = (fillN (-2) (R i) l i).2 := by rw [hf]
        obtain ⟨b1, b2, b3⟩ := spec_free R m (i + 1) _ l' h
        have hheld : ∀ j, i + 1 ≤ j → j < i + 1 + (R i - 1) → H j = true := by
          intro j h1 h2
          have q := g j
          rw [if_pos (by omega)] at q
          have q2 := b3 j (by rw [q]; decide)
          have q3 := hl' j (by rw [q2, q]; decide)
          have hjl := (gi j (by omega) (by omega)).1
          rcases hM j (by omega) (by rw [q3, q2, q]) with z | z
          · exact z
          · have := b2 j (by omega) (by omega) z
            rw [q] at this
            cases this
        rw [own_fill H (-2) _ _ _ hheld, if_pos k0, e2]
        exact heads_from H R M hM m (i + 1) _ l' h (by omega) (by omega) hl'
    · cases h

/-! ### the warps -/
def specWarps : List (Nat × Nat) → Nat → List Int → Bool × List Int
  | [], _, l => (true, l)
  | x :: r, i, l => if (fillN i x.2 l x.1).1 = true then specWarps r (i + 1) (fillN i x.2 l x.1).2 else (false, [])
def implWarps (H : Nat → Bool) : List (Nat × Nat) → Nat → List Int → Bool × List Int
  | [], _, l => (true, l)
  | x :: r, i, l => if (ownN H i x.2 l x.1).1 = true then implWarps H r (i + 1) (ownN H i x.2 l x.1).2 else (false, [])
theorem warps_to (H : Nat → Bool) : ∀ (ws : List (Nat × Nat)) (i : Nat) (l l' : List Int), implWarps H ws i l = (true, l') → specWarps ws i l = (true, l') ∧ l'.length = l.length ∧ (∀ j, l.getD j 0 ≠ -1 → l'.getD j 0 = l.getD j 0) ∧ (∀ j, l'.getD j 0 = l.getD j 0 ∨ (0 ≤ l'.getD j 0 ∧ H j = true))
  | [], i, l, l', h => by
    obtain ⟨_, rfl⟩ := Prod.mk.inj h
    exact ⟨rfl, rfl, fun _ _ => rfl, fun _ => .inl rfl⟩
  | x :: r, i, l, l', h => by
    unfold implWarps at h
    unfold specWarps
    split at h
    · rename_i ht
      have hown := own_eq H i _ _ _ ht
      have hheld := own_held H i _ _ _ ht
      rw [hown] at h ht
      have g := fill_get i _ _ _ ht
      have gl := fill_len i _ _ _ ht
      have gi := (fill_iff i (by omega) _ _ _).1 ht
      rw [if_pos ht]
      generalize (fillN i x.2 l x.1).2 = l1 at h g gl
      obtain ⟨a1, a2, a3, a4⟩ := warps_to H r (i + 1) l1 l' h
      refine ⟨a1, by omega, fun j hj => ?_, fun j => ?_⟩
      · have : ¬ (x.1 ≤ j ∧ j < x.1 + x.2) := fun k => hj (gi j k.1 k.2).2
        have q := g j
        rw [if_neg this] at q
        rw [a3 j (by rw [q]; exact hj), q]
      · rcases a4 j with q | q
        · rw [q, g]
          by_cases k : x.1 ≤ j ∧ j < x.1 + x.2
          · rw [if_pos k]; exact .inr ⟨by omega, hheld j k.1 k.2⟩
          · rw [if_neg k]; exact .inl rfl
        · exact .inr q
    · cases h
theorem spec_keep : ∀ (ws : List (Nat × Nat)) (i : Nat) (l l' : List Int), specWarps ws i l = (true, l') → l'.length = l.length ∧ (∀ j, l.getD j 0 ≠ -1 → l'.getD j 0 = l.getD j 0)
  | [], i, l, l', h => by
    obtain ⟨_, rfl⟩ := Prod.mk.inj h
    exact ⟨rfl, fun _ _ => rfl⟩
  | x :: r, i, l, l', h => by
    unfold specWarps at h
    split at h
    · rename_i ht
      have g := fill_get i _ _ _ ht
      have gl := fill_len i _ _ _ ht
      have gi := (fill_iff i (by omega) _ _ _).1 ht
      generalize (fillN i x.2 l x.1).2 = l1 at h g gl
      obtain ⟨a1, a2⟩ := spec_keep r (i + 1) l1 l' h
      refine ⟨by omega, fun j hj => ?_⟩
      have : ¬ (x.1 ≤ j ∧ j < x.1 + x.2) := fun k => hj (gi j k.1 k.2).2
      have q := g j
      rw [if_neg this] at q
      rw [a2 j (by rw [q]; exact hj), q]
    · cases h
theorem warps_from (H : Nat → Bool) (M : List Int) (hM : ∀ j, j < M.length → 0 ≤ M.getD j 0 → H j = true) : ∀ (ws : List (Nat × Nat)) (i : Nat) (l l' : List Int), specWarps ws i l = (true, l') → M.length = l.length → (∀ j, l'.getD j 0 ≠ -1 → M.getD j 0 = l'.getD j 0) → implWarps H ws i l = (true, l')
  | [], i, l, l', h, _, _ => h
  | x :: r, i, l, l', h, hML, hl' => by
    unfold specWarps at h
    unfold implWarps
    split at h
    · rename_i ht
      have g := fill_get i _ _ _ ht
      have gl := fill_len i _ _ _ ht
      have gi := (fill_iff i (by omega) _ _ _).1 ht
      have b := spec_keep r (i + 1) _ l' h
      have hheld : ∀ j, x.1 ≤ j → j < x.1 + x.2 → H j = true := by
        intro j h1 h2
        have q := g j
        rw [if_pos ⟨h1, h2⟩] at q
        have q2 := b.2 j (by rw [q]; omega)
        have q3 := hl' j (by rw [q2, q]; omega)
        have hjl := (gi j h1 h2).1
        exact hM j (by omega) (by rw [q3, q2, q]; omega)
      rw [own_fill H i _ _ _ hheld, if_pos ht]
      exact warps_from H M hM r (i + 1) _ l' h (by omega) hl'
    · cases h

/-! ### both together -/
def Last (H : Nat → Bool) (R : Nat → Nat) (l : List Int) : Prop := ∀ j, j < l.length → ¬ (l.getD j 0 = -1 ∧ (H j = true ∨ R j ≠ 0)) ∧ ¬ (0 ≤ l.getD j 0 ∧ H j = false) ∧ ¬ (l.getD j 0 = -2 ∧ H j = false ∧ R j = 0)
theorem owners_to {H : Nat → Bool} {R : Nat → Nat} {n : Nat} {ws : List (Nat × Nat)} {l0 l1 l2 : List Int} (hHR : ∀ i, R i ≠ 0 → H i = false) (h0 : l0 = List.replicate n (-1)) (h1 : implHeads H R n 0 l0 = (true, l1)) (h2 : implWarps H ws 0 l1 = (true, l2)) (h3 : ∀ j, j < n → H j = true → l2.getD j 0 ≠ -1) :
    specHeads R n 0 l0 = (true, l1) ∧ specWarps ws 0 l1 = (true, l2) ∧ Last H R l2 := by
  have hn : l0.length = n := by rw [h0]; simp
  have hg : ∀ j, j < n → l0.getD j 0 = -1 := fun j hj => by rw [h0, List.getD_eq_getElem?_getD, List.getElem?_replicate, if_pos hj]; rfl
  obtain ⟨a1, a2, a3, a4, a5, a6⟩ := heads_to H R hHR n 0 l0 l1 h1 (by omega) (fun j hj hl => absurd (hg j (by omega)) hj)
  obtain ⟨b1, b2, b3, b4⟩ := warps_to H ws 0 l1 l2 h2
  refine ⟨a1, b1, fun j hj => ⟨fun k => ?_, fun k => ?_, fun k => ?_⟩⟩
  · rcases k.2 with q | q
    · exact h3 j (by omega) q k.1
    · have z := a4 j (Nat.zero_le _) (by omega) q
      have := b3 j (by rw [z]; decide)
      rw [z, k.1] at this
      cases this
  · rcases b4 j with q | q
    · rcases a5 j with z | z
      · rw [q, z, hg j (by omega)] at k
        omega
      · rw [q, z] at k
        omega
    · rw [k.2] at q
      cases q.2
  · rcases b4 j with q | q
    · have z := a6 j (by omega) (by rw [← q, k.1]; decide)
      rw [k.2.1] at z
      rcases z with z | z
      · cases z
      · exact z k.2.2
    · rw [k.1] at q
      omega
theorem owners_from {H : Nat → Bool} {R : Nat → Nat} {n : Nat} {ws : List (Nat × Nat)} {l0 l1 l2 : List Int} (h0 : l0.length = n) (h1 : specHeads R n 0 l0 = (true, l1)) (h2 : specWarps ws 0 l1 = (true, l2)) (h3 : Last H R l2) :
    implHeads H R n 0 l0 = (true, l1) ∧ implWarps H ws 0 l1 = (true, l2) ∧ ∀ j, j < n → H j = true → l2.getD j 0 ≠ -1 := by
  have a := spec_free R n 0 l0 l1 h1
  have b := spec_keep ws 0 l1 l2 h2
  refine ⟨heads_from H R l2 (fun j hj hk => ?_) n 0 l0 l1 h1 (by omega) (by omega) (fun j hj => b.2 j hj), warps_from H l2 (fun j hj hk => ?_) ws 0 l1 l2 h2 (by omega) (fun j _ => rfl), fun j hj hH e => (h3 j (by omega)).1 ⟨e, .inl hH⟩⟩
  · have := (h3 j hj).2.2
    apply Classical.byContradiction
    intro hne
    refine this ⟨hk, ?_, ?_⟩
    · cases hb : H j
      · rfl
      · exact absurd (.inl hb) hne
    · apply Classical.byContradiction
      intro hr
      exact hne (.inr hr)
  · have := (h3 j hj).2.1
    cases hb : H j
    · exact absurd ⟨hk, hb⟩ this
    · rfl
end Go.Proofs.YtobboonnfocalaaGreatDoor.Own
