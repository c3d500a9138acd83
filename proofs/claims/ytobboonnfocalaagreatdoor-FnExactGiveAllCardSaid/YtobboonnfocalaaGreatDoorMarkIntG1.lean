/- The laws' marks in rows of whole numbers, from any number on. Conditions: none. -/
import Derived.Test.YtobboonnfocalaaGreatDoorBaseG1
import Derived.Test.YtobboonnfocalaaGreatDoorPG1x4
set_option linter.unusedVariables false
set_option linter.unusedSimpArgs false
namespace Go.Proofs.YtobboonnfocalaaGreatDoor.Base
open Go.RowKit Go.Proofs.YtobboonnfocalaaGreatDoor.PG1 Go.Proofs.YtobboonnfocalaaGreatDoorW.PrintWords Go.Proofs.YtobboonnfocalaaGreatDoorW.PrintLast Go.Proofs.YtobboonnfocalaaGreatDoorW.PrintMore

def ups : Int → Nat → List Int
  | _, 0 => []
  | y, n + 1 => y :: ups (y + 1) n
theorem ups_length : ∀ (n : Nat) (y : Int), (ups y n).length = n
  | 0, _ => rfl
  | n + 1, y => by rw [ups, List.length_cons, ups_length n]
theorem markIntS_loop : ∀ (r p : List Int) (y : Int) (k : Nat), r.length < k → p.length + r.length ≤ 9000000 → 0 ≤ y ∧ y + r.length ≤ 9000000 → laws_markIntS.l0 k (p ++ r) y (p.length : Int) = some (y + r.length, p ++ ups y r.length)
  | [], p, y, k, hk, hn, hy => by
    obtain ⟨k, rfl⟩ : ∃ m, k = m + 1 := ⟨k - 1, by omega⟩
    simp only [laws_markIntS.l0]
    rw [if_neg (by simp)]
    simp [ups]
  | e :: r, p, y, k, hk, hn, hy => by
    obtain ⟨k, rfl⟩ : ∃ m, k = m + 1 := ⟨k - 1, by omega⟩
    rw [List.length_cons] at hk hn hy
    have ih := markIntS_loop r (p ++ [y]) (y + 1) k (by omega) (by simp; omega) (by omega)
    rw [List.length_append, List.length_singleton, List.append_assoc, List.singleton_append] at ih
    simp only [laws_markIntS.l0]
    rw [if_pos (by rw [List.length_append, List.length_cons]; omega), if_pos (by omega), Int.toNat_natCast, w64 (n := y + 1) (by omega) (by omega), w64 (by omega) (by omega), show (p.length : Int) + 1 = ((p.length + 1 : Nat) : Int) by omega]
    have hs : (p ++ e :: r).set p.length y = p ++ y :: r := by simp
    rw [hs, ih, List.length_cons, ups, List.append_assoc, List.singleton_append, show y + 1 + (r.length : Int) = y + ((r.length + 1 : Nat) : Int) by omega]
theorem markIntS_at (l : List Int) (y : Int) (k : Nat) (hk : l.length < k) (hn : l.length ≤ 9000000) (hy : 0 ≤ y ∧ y + l.length ≤ 9000000) : laws_markIntS.f k l y = some (y + l.length, ups y l.length) := by
  unfold laws_markIntS.f
  have := markIntS_loop l [] y k hk (by simpa using hn) hy
  simpa using this
theorem heldIntS_loop : ∀ (n : Nat) (p : List Int) (y : Int) (k : Nat), n < k → p.length + n ≤ 9000000 → 0 ≤ y ∧ y + n ≤ 9000000 → laws_heldIntS.l0 k (p ++ ups y n) y (p.length : Int) = some (y + n)
  | 0, p, y, k, hk, hn, hy => by
    obtain ⟨k, rfl⟩ : ∃ m, k = m + 1 := ⟨k - 1, by omega⟩
    simp only [laws_heldIntS.l0]
    rw [if_neg (by simp [ups])]
    simp
  | n + 1, p, y, k, hk, hn, hy => by
    obtain ⟨k, rfl⟩ : ∃ m, k = m + 1 := ⟨k - 1, by omega⟩
    have ih := heldIntS_loop n (p ++ [y]) (y + 1) k (by omega) (by simp; omega) (by omega)
    rw [List.length_append, List.length_singleton, List.append_assoc, List.singleton_append] at ih
    simp only [laws_heldIntS.l0]
    have hr : rd (p ++ ups y (n + 1)) (p.length : Int) = y := by
      unfold rd
      simp [ups, List.getD_eq_getElem?_getD]
    rw [if_pos (by rw [List.length_append, ups_length]; omega), if_pos (by omega), hr, if_pos rfl, w64 (n := y + 1) (by omega) (by omega), w64 (by omega) (by omega), show (p.length : Int) + 1 = ((p.length + 1 : Nat) : Int) by omega]
    rw [show ups y (n + 1) = y :: ups (y + 1) n from rfl, ih, show y + 1 + (n : Int) = y + ((n + 1 : Nat) : Int) by omega]
theorem heldIntS_at (n : Nat) (y : Int) (k : Nat) (hk : n < k) (hn : n ≤ 9000000) (hy : 0 ≤ y ∧ y + n ≤ 9000000) : laws_heldIntS.f k (ups y n) y = some (y + n) := by
  unfold laws_heldIntS.f
  have := heldIntS_loop n [] y k hk (by simpa using hn) hy
  simpa using this
end Go.Proofs.YtobboonnfocalaaGreatDoor.Base
