/- The laws' own functions over lists of facts: copied, held against each other, marked; and lists of whole numbers marked. Conditions: none. -/
import Derived.Test.YtgccnoknhffhjaaLawInts
import Derived.Test.YtgccnoknhffhjaaPA1x13
import Derived.Test.YtgccnoknhffhjaaPA1x14
import Derived.Test.YtgccnoknhffhjaaPA1x15
import Derived.Test.YtgccnoknhffhjaaPA1x16
set_option linter.unusedVariables false
set_option linter.unusedSimpArgs false
namespace Go.Proofs.Ytgccnoknhffhjaa.Base
open Go.RowKit Go.Proofs.Ytgccnoknhffhjaa.PA1 Go.Proofs.YtgccnoknhffhjaaW.PrintWords Go.Proofs.YtgccnoknhffhjaaW.PrintLast Go.Proofs.YtgccnoknhffhjaaW.PrintMore
abbrev FI := S108
abbrev FL := S110
def toF (b : FL) : FI := ⟨b.f0, b.f1, b.f2, b.f3, b.f4⟩
theorem rdFI (l : List FI) (i : Nat) (h : i < l.length) : rd_T108 l (i : Int) = l[i] := by
  unfold rd_T108
  simp [List.getD_eq_getElem?_getD, h]
theorem rdFL (l : List FL) (i : Nat) (h : i < l.length) : rd_T110 l (i : Int) = l[i] := by
  unfold rd_T110
  simp [List.getD_eq_getElem?_getD, h]
theorem rdF_set (l : List FI) (i : Nat) (b : FI) (h : i < l.length) : rd_T108 (l.set i b) (i : Int) = b := by
  rw [rdFI _ i (by rw [List.length_set]; exact h), List.getElem_set_self]
theorem szFactS_eq (l : List FL) (n : Int) (hn : l.length ≤ 9223372036854775807) (h0 : 0 ≤ n) (h1 : n ≤ 1048576) : laws_szFactS.f l n = some (if n < l.length then -1 else n - l.length) := by
  unfold laws_szFactS.f
  rw [w64 (by omega) (by omega)]
  by_cases c : n < (l.length : Int)
  · rw [if_pos (by omega), if_pos c]
  · rw [if_neg (by omega), if_neg c]
theorem toFactS_eq (l : List FL) (hn : l.length ≤ 1048576) (k : Nat) (hk : l.length < k) : laws_toFactS.f k l = some (l.map toF) := by
  unfold laws_toFactS.f
  rw [if_pos (by omega), if_pos (by omega)]
  have h := fill_loop l toF (fun k ys i => laws_toFactS.l0 k l ys i) (by omega) (fun k ys => by simp only [laws_toFactS.l0]; rw [if_neg (by omega)])
    (fun k ys i hi hl => by
      simp only [laws_toFactS.l0, laws_toFact.f, Option.bind_some]
      rw [if_pos (by omega), if_pos (by omega), if_pos (by omega), rdFL l i hi, w64 (by omega) (by omega)]
      rfl)
    l.length 0 (List.replicate l.length z108) k (by simp) (by omega) hk
  simpa using h
theorem eqFactS_self (l : List FI) (hn : l.length ≤ 2000000) (k : Nat) (hk : l.length < k) : laws_eqFactS.f k l l = some true := by
  unfold laws_eqFactS.f
  rw [if_pos rfl]
  obtain ⟨b, h1, h2⟩ := all_loop l.length (fun _ => true) (fun k i => laws_eqFactS.l0 k l l i) (fun k => by simp only [laws_eqFactS.l0]; rw [if_neg (by omega)])
    (fun k i hi => by
      simp only [laws_eqFactS.l0, laws_eqFact.f, if_true, Option.bind_some]
      rw [if_pos (by omega), if_pos (by omega), if_pos (by omega), w64 (by omega) (by omega)]
      simp) l.length 0 k (by omega) hk
  rw [show b = true from h2.2 (fun _ _ _ => rfl)] at h1
  exact h1
theorem markFactS_eq (l : List FI) (hn : l.length ≤ 2000000) (k : Nat) (hk : l.length < k) : ∃ m, laws_markFactS.f k l 1 = some (1 + 5 * (l.length : Int), m) := by
  unfold laws_markFactS.f
  have h := mark_loop (fun c => (⟨c, c + 1, c + 2, c + 3, c + 4⟩ : FI)) 5 20000000 l.length (fun k ys c i => laws_markFactS.l0 k ys c i) (by omega) (fun k ys c => by simp only [laws_markFactS.l0]; rw [if_neg (by omega)])
    (fun k ys c i hi h0 h1 hN => by
      simp only [laws_markFactS.l0, Option.bind_some]
      rw [if_pos (by omega), if_pos (by omega), w64 (n := c + 1) (by omega) (by omega), w64 (n := c + 1 + 1) (by omega) (by omega), w64 (n := c + 1 + 1 + 1) (by omega) (by omega), w64 (n := c + 1 + 1 + 1 + 1) (by omega) (by omega), w64 (n := c + 1 + 1 + 1 + 1 + 1) (by omega) (by omega)]
      simp only [Int.toNat_natCast, rdF_set _ _ _ hi, List.set_set]
      rw [show c + 1 + 1 = c + 2 by omega, show c + 2 + 1 = c + 3 by omega, show c + 3 + 1 = c + 4 by omega, show c + 4 + 1 = c + 5 by omega, w64 (by omega) (by omega)]
      rfl)
    l.length 0 l 1 k (by omega) hk (by omega) (by omega) rfl
  exact ⟨_, by simpa using h⟩
theorem markIntS_eq (l : List Int) (hn : l.length ≤ 2000000) (k : Nat) (hk : l.length < k) : laws_markIntS.f k l 1 = some (1 + (l.length : Int), marks (fun c => c) 1 1 l.length) := by
  unfold laws_markIntS.f
  have h := mark_loop (fun c => c) 1 5000000 l.length (fun k ys c i => laws_markIntS.l0 k ys c i) (by omega) (fun k ys c => by simp only [laws_markIntS.l0]; rw [if_neg (by omega)])
    (fun k ys c i hi h0 h1 hN => by
      simp only [laws_markIntS.l0]
      rw [if_pos (by omega), if_pos (by omega), w64 (n := c + 1) (by omega) (by omega)]
      simp only [Int.toNat_natCast]
      congr 1
      rw [w64 (by omega) (by omega)]; omega)
    l.length 0 l 1 k (by omega) hk (by omega) (by omega) rfl
  simpa using h
theorem heldIntS_eq (n : Nat) (hn : n ≤ 2000000) (k : Nat) (hk : n < k) : laws_heldIntS.f k (marks (fun c => c) 1 1 n) 1 = some (1 + (n : Int)) := by
  unfold laws_heldIntS.f
  have hl := marks_length (fun c : Int => c) 1 n 1
  have h := held_loop (fun c : Int => c) 1 5000000 n 1 (fun k c i => laws_heldIntS.l0 k (marks (fun c => c) 1 1 n) c i) (by omega) (by omega) (by omega)
    (fun k c => by simp only [laws_heldIntS.l0]; rw [hl, if_neg (by omega)])
    (fun k i hi h1 => by
      simp only [laws_heldIntS.l0]
      rw [if_pos (by omega), if_pos (by omega), rdI _ i (by omega), marks_get, if_pos rfl, w64 (n := 1 + 1 * (i : Int) + 1) (by omega) (by omega), w64 (by omega) (by omega)]
      rfl)
    n 0 k (by omega) hk
  simpa using h
end Go.Proofs.Ytgccnoknhffhjaa.Base
