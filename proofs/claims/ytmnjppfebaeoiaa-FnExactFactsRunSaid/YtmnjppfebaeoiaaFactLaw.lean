/- The laws' own functions over lists of facts: copied, held against each other, marked. Conditions: none. -/
import Derived.Test.YtmnjppfebaeoiaaBase
import Derived.Test.YtmnjppfebaeoiaaPB1x22
import Derived.Test.YtmnjppfebaeoiaaPB1x38
import Derived.Test.YtmnjppfebaeoiaaPB1x39
set_option linter.unusedVariables false
set_option linter.unusedSimpArgs false
namespace Go.Proofs.Ytmnjppfebaeoiaa.Base
open Go.RowKit Go.Proofs.Ytmnjppfebaeoiaa.PB1 Go.Proofs.YtmnjppfebaeoiaaW.PrintWords Go.Proofs.YtmnjppfebaeoiaaW.PrintLast Go.Proofs.YtmnjppfebaeoiaaW.PrintMore
abbrev FI := S95
abbrev FL := S93
def toF (b : FL) : FI := ⟨b.f0, b.f1, b.f2, b.f3, b.f4⟩
theorem rdFI (l : List FI) (i : Nat) (h : i < l.length) : rd_T95 l (i : Int) = l[i] := by
  unfold rd_T95
  simp [List.getD_eq_getElem?_getD, h]
theorem rdFL (l : List FL) (i : Nat) (h : i < l.length) : rd_T93 l (i : Int) = l[i] := by
  unfold rd_T93
  simp [List.getD_eq_getElem?_getD, h]
theorem rdF_set (l : List FI) (i : Nat) (b : FI) (h : i < l.length) : rd_T95 (l.set i b) (i : Int) = b := by
  rw [rdFI _ i (by rw [List.length_set]; exact h), List.getElem_set_self]
theorem szFactS_eq (l : List FL) (n : Int) (hn : l.length ≤ 9223372036854775807) (h0 : 0 ≤ n) (h1 : n ≤ 1048576) : laws_szFactS.f l n = some (if n < l.length then -1 else n - l.length) := by
  unfold laws_szFactS.f
  rw [w64 (by omega) (by omega)]
  by_cases c : n < (l.length : Int)
  · rw [if_pos (by omega), if_pos c]
  · rw [if_neg (by omega), if_neg c]
theorem toFactS_eq (l : List FL) (hn : l.length ≤ 1048576) (k : Nat) (hk : l.length < k) : laws_toFactS.f k l = some (l.map toF) := by
  unfold laws_toFactS.f
  rw [if_pos (by omega), if_pos (by omega)]
  have h := fill_loop l toF (fun k ys i => laws_toFactS.l0 k l ys i) (by omega) (fun k ys => by simp only [laws_toFactS.l0]; rw [if_neg (by omega)])
    (fun k ys i hi hl => by
      simp only [laws_toFactS.l0, laws_toFact.f, Option.bind_some]
      rw [if_pos (by omega), if_pos (by omega), if_pos (by omega), rdFL l i hi, w64 (by omega) (by omega)]
      rfl)
    l.length 0 (List.replicate l.length z95) k (by simp) (by omega) hk
  simpa using h
theorem eqFactS_self (l : List FI) (hn : l.length ≤ 2000000) (k : Nat) (hk : l.length < k) : laws_eqFactS.f k l l = some true := by
  unfold laws_eqFactS.f
  rw [if_pos rfl]
  obtain ⟨b, h1, h2⟩ := all_loop l.length (fun _ => true) (fun k i => laws_eqFactS.l0 k l l i) (fun k => by simp only [laws_eqFactS.l0]; rw [if_neg (by omega)])
    (fun k i hi => by
      simp only [laws_eqFactS.l0, laws_eqFact.f, if_true, Option.bind_some]
      rw [if_pos (by omega), if_pos (by omega), if_pos (by omega), w64 (by omega) (by omega)]
      simp) l.length 0 k (by omega) hk
  rw [show b = true from h2.2 (fun _ _ _ => rfl)] at h1
  exact h1
theorem markFactS_eq (l : List FI) (hn : l.length ≤ 2000000) (k : Nat) (hk : l.length < k) : ∃ m, laws_markFactS.f k l 1 = some (1 + 5 * (l.length : Int), m) := by
  unfold laws_markFactS.f
  have h := mark_loop (fun c => (⟨c, c + 1, c + 2, c + 3, c + 4⟩ : FI)) 5 20000000 l.length (fun k ys c i => laws_markFactS.l0 k ys c i) (by omega) (fun k ys c => by simp only [laws_markFactS.l0]; rw [if_neg (by omega)])
    (fun k ys c i hi h0 h1 hN => by
      simp only [laws_markFactS.l0, Option.bind_some]
      rw [if_pos (by omega), if_pos (by omega), w64 (n := c + 1) (by omega) (by omega), w64 (n := c + 1 + 1) (by omega) (by omega), w64 (n := c + 1 + 1 + 1) (by omega) (by omega), w64 (n := c + 1 + 1 + 1 + 1) (by omega) (by omega), w64 (n := c + 1 + 1 + 1 + 1 + 1) (by omega) (by omega)]
      simp only [Int.toNat_natCast, rdF_set _ _ _ hi, List.set_set]
      rw [show c + 1 + 1 = c + 2 by omega, show c + 2 + 1 = c + 3 by omega, show c + 3 + 1 = c + 4 by omega, show c + 4 + 1 = c + 5 by omega, w64 (by omega) (by omega)]
      rfl)
    l.length 0 l 1 k (by omega) hk (by omega) (by omega) rfl
  exact ⟨_, by simpa using h⟩
end Go.Proofs.Ytmnjppfebaeoiaa.Base
