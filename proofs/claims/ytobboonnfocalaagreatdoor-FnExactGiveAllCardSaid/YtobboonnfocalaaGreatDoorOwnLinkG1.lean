/- The owners, the program's and the reference's functions: both come to the plain law's. Conditions: none. -/
import Derived.Test.YtobboonnfocalaaGreatDoorOwnPureG1
import Derived.Test.YtobboonnfocalaaGreatDoorWarpPureG1
import Derived.Test.YtobboonnfocalaaGreatDoorCtlPureG1
import Derived.Test.YtobboonnfocalaaGreatDoorOwnersG1

set_option linter.unusedVariables false
set_option linter.unusedSimpArgs false
namespace Go.Proofs.YtobboonnfocalaaGreatDoor.Own
open Go.RowKit Go.Proofs.YtobboonnfocalaaGreatDoor.Base Go.Proofs.YtobboonnfocalaaGreatDoor.PG1 Go.Proofs.YtobboonnfocalaaGreatDoorW.PrintWords Go.Proofs.YtobboonnfocalaaGreatDoorW.PrintLast Go.Proofs.YtobboonnfocalaaGreatDoorW.PrintMore

/-- With enough fuel it answers r. -/
def Tells {α : Type} (f : Nat → Option α) (r : α) : Prop := ∃ K, ∀ k, K ≤ k → f k = some r
theorem Tells.step {α : Type} {f g : Nat → Option α} {r : α} (h : Tells g r) (K : Nat) (e : ∀ k, K ≤ k → f (k + 1) = g k) : Tells f r := by
  obtain ⟨K1, h1⟩ := h
  refine ⟨K + K1 + 1, fun k hk => ?_⟩
  obtain ⟨m, rfl⟩ : ∃ m, k = m + 1 := ⟨k - 1, by omega⟩
  rw [e m (by omega), h1 m (by omega)]
theorem Tells.now {α : Type} {f : Nat → Option α} {r : α} (K : Nat) (e : ∀ k, K ≤ k → f (k + 1) = some r) : Tells f r := by
  refine ⟨K + 1, fun k hk => ?_⟩
  obtain ⟨m, rfl⟩ : ∃ m, k = m + 1 := ⟨k - 1, by omega⟩
  exact e m (by omega)

def U32 (words : List Int) : Prop := ∀ x ∈ words, 0 ≤ x ∧ x ≤ 4294967295
theorem u32_at {words : List Int} (h : U32 words) {i : Nat} (hi : i < words.length) : 0 ≤ rd words (i : Int) ∧ rd words (i : Int) ≤ 4294967295 := by
  rw [rd_nat, List.getD_eq_getElem?_getD, List.getElem?_eq_getElem hi]
  exact h _ (List.getElem_mem hi)
/-- Is the chunk held; the run that it begins. -/
def Hw (words : List Int) (i : Nat) : Bool := decide (rd words (i : Int) = 3145728)
def Rw (words : List Int) (i : Nat) : Nat := (ctlRead (rd words (i : Int))).2.2.2.1.toNat
/-- What a control word says of its state. -/
theorem ctl_states {x : Int} (h0 : 0 ≤ x ∧ x ≤ 4294967295) (hok : (ctlRead x).2.2.2.2 = true) : ((ctlRead x).1 = 3 ↔ x = 3145728) ∧ ((ctlRead x).1 = 2 ↔ (ctlRead x).2.2.2.1 ≠ 0) ∧ (0 ≤ (ctlRead x).2.2.2.1 ∧ (ctlRead x).2.2.2.1 ≤ 16) := by
  unfold ctlRead at hok ⊢
  split at hok
  · rename_i h
    rw [if_pos h]
    dsimp only
    unfold ctlOk at h
    split at h
    · simp only [decide_eq_true_eq] at h
      omega
    · split at h
      · simp only [decide_eq_true_eq] at h
        omega
      · split at h
        · simp only [decide_eq_true_eq] at h
          omega
        · cases h
  · cases hok
def AllCtl (words : List Int) : Prop := ∀ i, i < words.length → (ctlRead (rd words (i : Int))).2.2.2.2 = true
theorem rw_held {words : List Int} (hu : U32 words) (hc : AllCtl words) {i : Nat} (hi : i < words.length) (h : Rw words i ≠ 0) : Hw words i = false := by
  have := ctl_states (u32_at hu hi) (hc i hi)
  unfold Rw at h
  unfold Hw
  rw [decide_eq_false_iff_not]
  intro e
  have h3 := this.1.2 e
  have h2 := this.2.1.2 (by omega)
  omega

/-! ### the program's -/
theorem own_link (words : List Int) (v : Int) : ∀ (d : Nat) (l : List Int) (c : Nat), (ownL l.length words d l (c : Int) ((c : Int) + d) v).1 = (ownN (Hw words) v d l c).1 ∧ ((ownN (Hw words) v d l c).1 = true → (ownL l.length words d l (c : Int) ((c : Int) + d) v).2 = (ownN (Hw words) v d l c).2)
  | 0, l, c => ⟨rfl, fun _ => rfl⟩
  | d + 1, l, c => by
    have ih := own_link words v d (l.set c v) (c + 1)
    rw [List.length_set, show (((c + 1 : Nat) : Int) + (d : Int)) = (c : Int) + ((d + 1 : Nat) : Int) by omega, show ((c + 1 : Nat) : Int) = (c : Int) + 1 by omega] at ih
    unfold ownL ownN
    rw [if_pos (by omega), Int.toNat_natCast, rd_nat]
    by_cases h1 : c < l.length
    · rw [if_neg (by omega), if_pos h1]
      by_cases h2 : l.getD c 0 = -1
      · rw [if_pos h2, if_pos h2]
        by_cases h3 : rd words (c : Int) = 3145728
        · rw [if_pos h3, if_pos (show Hw words c = true from decide_eq_true h3)]
          exact ih
        · rw [if_neg h3, if_neg (show ¬ Hw words c = true by unfold Hw; simp [h3])]
          exact ⟨rfl, fun h => by cases h⟩
      · rw [if_neg h2, if_neg h2]
        exact ⟨rfl, fun h => by cases h⟩
    · rw [if_pos (by omega), if_neg h1]
      exact ⟨rfl, fun h => by cases h⟩
theorem ctlT_eq {x : Int} (h : 0 ≤ x ∧ x ≤ 4294967295) : ctlT x = ctlRead x := by
  unfold ctlT
  rw [impl_ctlRead x h.1 h.2 2 (by omega)]
  rfl
theorem own_len (H : Nat → Bool) (v : Int) (d : Nat) (l : List Int) (c : Nat) (h : (ownN H v d l c).1 = true) : (ownN H v d l c).2.length = l.length := by
  have e := own_eq H v d l c h
  rw [e] at h ⊢
  exact fill_len v d l c h
theorem heads_link (words : List Int) (hu : U32 words) (hc : AllCtl words) : ∀ (m i : Nat) (l : List Int), i + m = words.length → l.length = words.length → headsL words.length words (words.drop i) i l = some (implHeads (Hw words) (Rw words) m i l)
  | 0, i, l, hm, hl => by
    rw [List.drop_eq_nil_of_le (by omega)]
    rfl
  | m + 1, i, l, hm, hl => by
    have hi : i < words.length := by omega
    have hd : words.drop i = rd words (i : Int) :: words.drop (i + 1) := by
      rw [List.drop_eq_getElem_cons hi, rd_nat, List.getD_eq_getElem?_getD, List.getElem?_eq_getElem hi]
      rfl
    have hx := u32_at hu hi
    have hs := ctl_states hx (hc i hi)
    have hr : Rw words i = (ctlRead (rd words (i : Int))).2.2.2.1.toNat := rfl
    rw [hd]
    unfold headsL implHeads
    rw [ctlT_eq hx]
    rw [hr]
    generalize (ctlRead (rd words (i : Int))).2.2.2.1 = run at hs ⊢
    by_cases h2 : (ctlRead (rd words (i : Int))).1 = 2
    · have h3 := hs.2.1.1 h2
      rw [if_pos h2, if_pos (show 1 ≤ run ∧ run ≤ 100 by omega), if_pos (show run.toNat ≠ 0 by omega)]
      have hk := own_link words (-2) (run - 1).toNat l (i + 1)
      rw [show ((i + 1 : Nat) : Int) + (((run - 1).toNat : Nat) : Int) = (i : Int) + 1 + (run - 1) by omega, show ((i + 1 : Nat) : Int) = (i : Int) + 1 by omega, hl, show (run - 1).toNat = run.toNat - 1 by omega] at hk
      rw [show (run - 1).toNat = run.toNat - 1 by omega, hk.1]
      by_cases h4 : (ownN (Hw words) (-2) (run.toNat - 1) l (i + 1)).1 = true
      · rw [if_pos h4, if_pos h4, hk.2 h4]
        have hlen := own_len _ _ _ _ _ h4
        exact heads_link words hu hc m (i + 1) _ (by omega) (by rw [List.length_set]; omega)
      · rw [if_neg h4, if_neg h4]
    · have h3 : run = 0 := by
        apply Classical.byContradiction
        intro hne
        exact h2 (hs.2.1.2 hne)
      rw [if_neg h2, if_neg (show ¬ run.toNat ≠ 0 by omega)]
      exact heads_link words hu hc m (i + 1) l (by omega) hl
def pairs (ws : List S49) : List (Nat × Nat) := ws.map fun x => (x.f5.toNat, x.f6.toNat)
def Rng (ws : List S49) : Prop := ∀ x ∈ ws, (0 ≤ x.f5 ∧ x.f5 ≤ 16) ∧ (0 ≤ x.f6 ∧ x.f6 ≤ 16)
theorem warps_link (words : List Int) : ∀ (ws : List S49) (i : Nat) (l : List Int), Rng ws → l.length = words.length → warpsL words.length words ws i l = some (implWarps (Hw words) (pairs ws) i l)
  | [], _, _, _, _ => rfl
  | x :: r, i, l, hr, hl => by
    have hx := hr x (List.mem_cons_self ..)
    unfold warpsL
    rw [if_pos (by omega)]
    show _ = some (if (ownN (Hw words) i x.f6.toNat l x.f5.toNat).1 = true then implWarps (Hw words) (pairs r) (i + 1) (ownN (Hw words) i x.f6.toNat l x.f5.toNat).2 else (false, []))
    have hk := own_link words i x.f6.toNat l x.f5.toNat
    rw [show ((x.f5.toNat : Nat) : Int) + ((x.f6.toNat : Nat) : Int) = x.f5 + x.f6 by omega, show ((x.f5.toNat : Nat) : Int) = x.f5 by omega, hl] at hk
    rw [hk.1]
    by_cases h4 : (ownN (Hw words) i x.f6.toNat l x.f5.toNat).1 = true
    · rw [if_pos h4, if_pos h4, hk.2 h4]
      have hlen := own_len _ _ _ _ _ h4
      exact warps_link words r (i + 1) _ (fun y hy => hr y (List.mem_cons_of_mem _ hy)) (by omega)
    · rw [if_neg h4, if_neg h4]
theorem free_link (words : List Int) : ∀ (m i : Nat) (l : List Int), i + m = words.length → (freeL (words.drop i) i l = true ↔ ∀ j, i ≤ j → j < words.length → Hw words j = true → l.getD j 0 ≠ -1)
  | 0, i, l, hm => by
    rw [List.drop_eq_nil_of_le (by omega)]
    simp only [freeL, true_iff]
    intro j h1 h2
    omega
  | m + 1, i, l, hm => by
    have hi : i < words.length := by omega
    have hd : words.drop i = rd words (i : Int) :: words.drop (i + 1) := by
      rw [List.drop_eq_getElem_cons hi, rd_nat, List.getD_eq_getElem?_getD, List.getElem?_eq_getElem hi]
      rfl
    have ih := free_link words m (i + 1) l (by omega)
    rw [hd]
    unfold freeL
    have key : (∀ j, i ≤ j → j < words.length → Hw words j = true → l.getD j 0 ≠ -1) ↔ (Hw words i = true → l.getD i 0 ≠ -1) ∧ ∀ j, i + 1 ≤ j → j < words.length → Hw words j = true → l.getD j 0 ≠ -1 := by
      constructor
      · intro h
        exact ⟨h i (Nat.le_refl _) hi, fun j h1 h2 => h j (by omega) h2⟩
      · intro h j h1 h2
        by_cases e : j = i
        · subst e; exact h.1
        · exact h.2 j (by omega) h2
    rw [key, ← ih, rd_nat l]
    by_cases h3 : rd words (i : Int) = 3145728
    · have hH : Hw words i = true := decide_eq_true h3
      rw [if_pos h3]
      by_cases h4 : l.getD i 0 = -1
      · rw [if_pos h4]
        exact ⟨fun h => (by cases h), fun h => absurd h4 (h.1 hH)⟩
      · rw [if_neg h4]
        exact ⟨fun h => ⟨fun _ => h4, h⟩, fun h => h.2⟩
    · have hH : ¬ Hw words i = true := by unfold Hw; simp [h3]
      rw [if_neg h3]
      exact ⟨fun h => ⟨fun k => absurd k hH, h⟩, fun h => h.2⟩
end Go.Proofs.YtobboonnfocalaaGreatDoor.Own
