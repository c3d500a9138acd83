/- The laws' own functions over lists of whole numbers: held against each other, marked. Conditions: none. -/
import Derived.Test.YtmnjppfebaeoiaaBaseC2
import Derived.Test.YtmnjppfebaeoiaaPC2x6
set_option linter.unusedVariables false
set_option linter.unusedSimpArgs false
namespace Go.Proofs.Ytmnjppfebaeoiaa.Base
open Go.RowKit Go.Proofs.Ytmnjppfebaeoiaa.PC2 Go.Proofs.YtmnjppfebaeoiaaW.PrintWords Go.Proofs.YtmnjppfebaeoiaaW.PrintLast Go.Proofs.YtmnjppfebaeoiaaW.PrintMore
theorem rdI (l : List Int) (i : Nat) (h : i < l.length) : rd l (i : Int) = l[i] := by
  unfold rd
  simp [List.getD_eq_getElem?_getD, h]
theorem eqIntS_self (l : List Int) (hn : l.length ≤ 2000000) (k : Nat) (hk : l.length < k) : laws_eqIntS.f k l l = some true := by
  unfold laws_eqIntS.f
  rw [if_pos rfl]
  obtain ⟨b, h1, h2⟩ := all_loop l.length (fun _ => true) (fun k i => laws_eqIntS.l0 k l l i) (fun k => by simp only [laws_eqIntS.l0]; rw [if_neg (by omega)])
    (fun k i hi => by
      simp only [laws_eqIntS.l0]
      rw [if_pos (by omega), if_pos (by omega), if_pos (by omega), w64 (by omega) (by omega)]
      simp) l.length 0 k (by omega) hk
  rw [show b = true from h2.2 (fun _ _ _ => rfl)] at h1
  exact h1
theorem markIntS_eq (l : List Int) (hn : l.length ≤ 2000000) (k : Nat) (hk : l.length < k) : laws_markIntS.f k l 1 = some (1 + (l.length : Int), marks (fun c => c) 1 1 l.length) := by
  unfold laws_markIntS.f
  have h := mark_loop (fun c => c) 1 5000000 l.length (fun k ys c i => laws_markIntS.l0 k ys c i) (by omega) (fun k ys c => by simp only [laws_markIntS.l0]; rw [if_neg (by omega)])
    (fun k ys c i hi h0 h1 hN => by
      simp only [laws_markIntS.l0]
      rw [if_pos (by omega), if_pos (by omega), w64 (n := c + 1) (by omega) (by omega)]
      simp only [Int.toNat_natCast]
      congr 1
      rw [w64 (by omega) (by omega)]; omega)
    l.length 0 l 1 k (by omega) hk (by omega) (by omega) rfl
  simpa using h
theorem heldIntS_eq (n : Nat) (hn : n ≤ 2000000) (k : Nat) (hk : n < k) : laws_heldIntS.f k (marks (fun c => c) 1 1 n) 1 = some (1 + (n : Int)) := by
  unfold laws_heldIntS.f
  have hl := marks_length (fun c : Int => c) 1 n 1
  have h := held_loop (fun c : Int => c) 1 5000000 n 1 (fun k c i => laws_heldIntS.l0 k (marks (fun c => c) 1 1 n) c i) (by omega) (by omega) (by omega)
    (fun k c => by simp only [laws_heldIntS.l0]; rw [hl, if_neg (by omega)])
    (fun k i hi h1 => by
      simp only [laws_heldIntS.l0]
      rw [if_pos (by omega), if_pos (by omega), rdI _ i (by omega), marks_get, if_pos rfl, w64 (n := 1 + 1 * (i : Int) + 1) (by omega) (by omega), w64 (by omega) (by omega)]
      rfl)
    n 0 k (by omega) hk
  simpa using h
end Go.Proofs.Ytmnjppfebaeoiaa.Base
