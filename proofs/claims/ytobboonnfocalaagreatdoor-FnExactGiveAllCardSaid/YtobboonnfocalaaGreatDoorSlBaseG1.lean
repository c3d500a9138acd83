/- Where the first element lies of which a predicate says yes: plain facts, and what is asked of a predicate that is run. Conditions: none. -/
import Derived.Test.YtobboonnfocalaaGreatDoorVG10
import Derived.Shelf.Abstract
set_option linter.unusedVariables false
set_option linter.unusedSimpArgs false
namespace Go.Proofs.YtobboonnfocalaaGreatDoor.Sl
open Go.RowKit Go.Proofs.YtobboonnfocalaaGreatDoorW.PrintWords Go.Proofs.YtobboonnfocalaaGreatDoorW.PrintLast Go.Proofs.YtobboonnfocalaaGreatDoorW.PrintMore

def idxFrom {α : Type} (p : α → Bool) : Nat → List α → Int
  | _, [] => -1
  | i, x :: r => if p x then (i : Int) else idxFrom p (i + 1) r
/-- The first index of which p says yes, or -1. -/
def idxOf {α : Type} (p : α → Bool) (l : List α) : Int := idxFrom p 0 l
theorem idxFrom_hit {α : Type} (p : α → Bool) : ∀ (l : List α) (i k : Nat) (h : k < l.length), (∀ j (hj : j < k), p (l[j]'(by omega)) = false) → p l[k] = true → idxFrom p i l = ((i + k : Nat) : Int)
  | x :: r, i, 0, h, _, hp => by
    simp only [idxFrom]
    rw [if_pos (by simpa using hp)]
    simp
  | x :: r, i, k + 1, h, hn, hp => by
    simp only [idxFrom]
    have h0 := hn 0 (by omega)
    simp only [List.getElem_cons_zero] at h0
    rw [if_neg (by rw [h0]; simp), idxFrom_hit p r (i + 1) k (by simpa using h) (fun j hj => by have := hn (j + 1) (by omega); simpa using this) (by simpa using hp)]
    omega
theorem idxFrom_miss {α : Type} (p : α → Bool) : ∀ (l : List α) (i : Nat), (∀ j (hj : j < l.length), p (l[j]'hj) = false) → idxFrom p i l = -1
  | [], i, _ => rfl
  | x :: r, i, hn => by
    simp only [idxFrom]
    have h0 := hn 0 (by simp)
    simp only [List.getElem_cons_zero] at h0
    rw [if_neg (by rw [h0]; simp), idxFrom_miss p r (i + 1) (fun j hj => by have := hn (j + 1) (by simpa using hj); simpa using this)]
theorem idxOf_hit {α : Type} (p : α → Bool) (l : List α) (k : Nat) (h : k < l.length) (hn : ∀ j (hj : j < k), p (l[j]'(by omega)) = false) (hp : p l[k] = true) : idxOf p l = (k : Int) := by
  unfold idxOf
  rw [idxFrom_hit p l 0 k h hn hp]
  simp
theorem idxOf_miss {α : Type} (p : α → Bool) (l : List α) (hn : ∀ j (hj : j < l.length), p (l[j]'hj) = false) : idxOf p l = -1 := idxFrom_miss p l 0 hn
theorem idxFrom_any {α : Type} (p : α → Bool) : ∀ (l : List α) (i : Nat), (0 ≤ idxFrom p i l) ↔ l.any p = true
  | [], i => by simp [idxFrom]
  | x :: r, i => by
    rw [show idxFrom p i (x :: r) = if p x then (i : Int) else idxFrom p (i + 1) r from rfl]
    by_cases h : p x = true
    · rw [if_pos h]; simp [h]
    · rw [if_neg h, idxFrom_any p r (i + 1)]; simp [h]
theorem idxOf_any {α : Type} (p : α → Bool) (l : List α) : decide (0 ≤ idxOf p l) = l.any p := by
  rw [Bool.eq_iff_iff, decide_eq_true_eq]
  exact idxFrom_any p l 0

/-- What is asked of the predicate: at each element, in every later world, it says p, and leaves what there was. -/
def Pred {α : Type} (P : Program) (c : FuncId) (caps : Array Value) (enc : α → Value) (p : α → Bool) (l : List α) (w : World) : Prop :=
  ∀ x ∈ l, ∀ W, Below w.heap.size w W → Calls P c (#[enc x] ++ caps) W fun e w' => e = .returned (.bool (p x)) ∧ Below W.heap.size W w'

end Go.Proofs.YtobboonnfocalaaGreatDoor.Sl
