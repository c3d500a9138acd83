/- The laws' own functions over lists of blocks: copied, held against each other, marked. Conditions: none. -/
import Derived.Test.YtmnjppfebaeoiaaLiveOk
import Derived.Test.YtmnjppfebaeoiaaPB1x4
set_option linter.unusedVariables false
set_option linter.unusedSimpArgs false
namespace Go.Proofs.Ytmnjppfebaeoiaa.Base
open Go.RowKit Go.Proofs.Ytmnjppfebaeoiaa.PB1 Go.Proofs.YtmnjppfebaeoiaaW.PrintWords Go.Proofs.YtmnjppfebaeoiaaW.PrintLast Go.Proofs.YtmnjppfebaeoiaaW.PrintMore
theorem rdB_set (l : List BI) (i : Nat) (b : BI) (h : i < l.length) : rd_T43 (l.set i b) (i : Int) = b := by
  rw [rdB _ i (by rw [List.length_set]; exact h), List.getElem_set_self]
theorem markBlockS_eq (l : List BI) (hn : l.length ≤ 2000000) (k : Nat) (hk : l.length < k) : laws_markBlockS.f k l 1 = some (1 + 2 * (l.length : Int), marks (fun c => (⟨c, c + 1⟩ : BI)) 2 1 l.length) := by
  unfold laws_markBlockS.f
  have h := mark_loop (fun c => (⟨c, c + 1⟩ : BI)) 2 5000000 l.length (fun k ys c i => laws_markBlockS.l0 k ys c i) (by omega) (fun k ys c => by simp only [laws_markBlockS.l0]; rw [if_neg (by omega)])
    (fun k ys c i hi h0 h1 hN => by
      simp only [laws_markBlockS.l0, Option.bind_some]
      rw [if_pos (by omega), if_pos (by omega), w64 (n := c + 1) (by omega) (by omega), w64 (n := c + 1 + 1) (by omega) (by omega)]
      simp only [Int.toNat_natCast]
      rw [rdB_set _ _ _ hi, List.set_set]
      congr 1
      · omega
      · rw [w64 (by omega) (by omega)]; omega)
    l.length 0 l 1 k (by omega) hk (by omega) (by omega) rfl
  simpa using h
theorem heldBlockS_eq (n : Nat) (hn : n ≤ 2000000) (k : Nat) (hk : n < k) : laws_heldBlockS.f k (marks (fun c => (⟨c, c + 1⟩ : BI)) 2 1 n) 1 = some (1 + 2 * (n : Int)) := by
  unfold laws_heldBlockS.f
  have hl := marks_length (fun c => (⟨c, c + 1⟩ : BI)) 2 n 1
  have h := held_loop (fun c => (⟨c, c + 1⟩ : BI)) 2 5000000 n 1 (fun k c i => laws_heldBlockS.l0 k (marks (fun c => (⟨c, c + 1⟩ : BI)) 2 1 n) c i) (by omega) (by omega) (by omega)
    (fun k c => by simp only [laws_heldBlockS.l0]; rw [hl, if_neg (by omega)])
    (fun k i hi h1 => by
      simp only [laws_heldBlockS.l0]
      rw [if_pos (by omega), if_pos (by omega), rdB _ i (by omega), marks_get, w64 (n := 1 + 2 * (i : Int) + 1) (by omega) (by omega), if_pos rfl, if_pos rfl, w64 (by omega) (by omega), w64 (by omega) (by omega)]
      rfl)
    n 0 k (by omega) hk
  simpa using h
end Go.Proofs.Ytmnjppfebaeoiaa.Base
