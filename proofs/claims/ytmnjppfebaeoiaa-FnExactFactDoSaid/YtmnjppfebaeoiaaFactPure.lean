/- What a fact does to the live blocks, the program's and the reference's: one plain step. Conditions: none. -/
import Derived.Test.YtmnjppfebaeoiaaCutAdd
import Derived.Test.YtmnjppfebaeoiaaFDo
import Derived.Test.YtmnjppfebaeoiaaPB1x22
import Derived.Test.YtmnjppfebaeoiaaPB1x23
set_option linter.unusedVariables false
set_option linter.unusedSimpArgs false
namespace Go.Proofs.Ytmnjppfebaeoiaa.Base
open Go.RowKit Go.Proofs.Ytmnjppfebaeoiaa.PB1 Go.Proofs.Ytmnjppfebaeoiaa.Sl Go.Proofs.YtmnjppfebaeoiaaW.PrintWords Go.Proofs.YtmnjppfebaeoiaaW.PrintLast

def factOk (k w l a s : Int) : Bool := decide (0 ≤ w ∧ w < 4 ∧ 0 ≤ l ∧ l < 8 ∧ ((k = 1 ∨ k = 2) ∧ 0 ≤ a ∧ a ≤ 255 ∧ 1 ≤ s ∨ k = 3 ∧ a = -1 ∧ 1 ≤ s ∧ s ≤ 256 ∨ k = 4 ∧ 0 ≤ a ∧ a ≤ 4095 ∧ s = 0))
theorem spec_factOk (m : Nat) (k w l a s : Int) : spec_FactOk.f (m + 2) k w l a s = some (factOk k w l a s) := by
  unfold spec_FactOk.f
  simp only [spec_FactOk.j0, spec_FactOk.j1, factOk, if_true]
  (repeat' split) <;> (rw [Option.some.injEq, Bool.eq_iff_iff]; simp only [beq_iff_eq, decide_eq_true_eq, Bool.false_eq_true, Bool.not_eq_true', decide_eq_false_iff_not, Bool.not_eq_false, false_iff, true_iff] at *; omega)
theorem impl_factOk (m : Nat) (k w l a s : Int) : impl_isFact.f (m + 2) k w l a s = some (factOk k w l a s) := by
  unfold impl_isFact.f
  simp only [impl_isFact.j0, impl_isFact.j1, factOk, within_eq, Option.bind_some, Option.bind_fun_some, if_true]
  (repeat' split) <;> (rw [Option.some.injEq, Bool.eq_iff_iff]; simp only [beq_iff_eq, decide_eq_true_eq, Bool.false_eq_true, Bool.not_eq_true', decide_eq_false_iff_not, Bool.not_eq_false, false_iff, true_iff] at *; omega)

/-- The live blocks behind a fact. -/
def stepOf (l : List BI) (f : S95) : List BI × Bool :=
  if liveOk l 256 = true then (if factOk f.f0 f.f1 f.f2 f.f3 f.f4 = true then (if f.f0 = 1 then addOf l 256 ⟨f.f3, f.f4⟩ else (if f.f0 = 2 then (if (cutOf l 256 f.f3).2.2 = true then (if (cutOf l 256 f.f3).2.1 = f.f4 then ((cutOf l 256 f.f3).1, true) else ([], false)) else ([], false)) else (if f.f0 = 4 then (if l.any (starts f.f3) = true then ([], false) else (l, true)) else (l, true)))) else ([], false)) else ([], false)
theorem cut_any (l : List BI) (t : Int) (h : liveOk l 256 = true) : (cutOf l 256 t).2.2 = l.any (starts t) := by
  unfold cutOf cutFrom cutAt
  rw [if_pos h, List.drop_zero]
  have := idxOf_any (starts t) l
  unfold idxOf at this
  by_cases c : idxFrom (starts t) 0 l < 0
  · rw [if_pos c, ← this, decide_eq_false (by omega)]
  · rw [if_neg c, ← this, decide_eq_true (by omega)]
theorem spec_step (l : List BI) (f : S95) (hwf : ∀ b ∈ l, wfB b) (hb : wfB ⟨f.f3, f.f4⟩) (hn : l.length ≤ 1048576) (k : Nat) (hk : 3 * l.length + 40 < k) : spec_FactDo.f k l f.f0 f.f1 f.f2 f.f3 f.f4 = some (stepOf l f) := by
  obtain ⟨k, rfl⟩ : ∃ m, k = m + 3 := ⟨k - 3, by omega⟩
  unfold spec_FactDo.f stepOf
  rw [spec_liveOk l 256 hwf hn _ (by omega), Option.bind_some]
  by_cases h : liveOk l 256 = true
  · rw [if_pos h, if_pos h, spec_factOk, Option.bind_some]
    have h3 := (ok_parts h).2.2.1
    by_cases h2 : factOk f.f0 f.f1 f.f2 f.f3 f.f4 = true
    · have e1 : ([] : List BI).length + l.length < 8796093022208 := by rw [List.length_nil]; omega
      rw [if_pos h2, spec_FactDo.j0, h2, if_neg (by simp), Option.bind_some, if_pos e1, Option.bind_some, List.nil_append]
      by_cases k1 : f.f0 = 1
      · rw [if_pos k1, if_pos k1, spec_add_eq l 256 ⟨f.f3, f.f4⟩ hwf hb hn _ (by omega), Option.bind_some]
      · rw [if_neg k1, if_neg k1]
        by_cases k2 : f.f0 = 2
        · rw [if_pos k2, if_pos k2, spec_cut_eq l 256 f.f3 hwf hn _ (by omega), Option.bind_some]
          (repeat' split) <;> rfl
        · rw [if_neg k2, if_neg k2]
          by_cases k4 : f.f0 = 4
          · rw [if_pos k4, if_pos k4, spec_cut_eq l 256 f.f3 hwf hn _ (by omega), Option.bind_some, cut_any l f.f3 h]
            (repeat' split) <;> rfl
          · rw [if_neg k4, if_neg k4]
    · rw [if_neg h2, spec_FactDo.j0, if_pos (by simpa using h2)]
  · rw [if_neg h, if_neg h, spec_FactDo.j0, if_pos rfl]
theorem impl_step (l : List BI) (f : S95) (hwf : ∀ b ∈ l, wfB b) (hb : wfB ⟨f.f3, f.f4⟩) (hn : l.length ≤ 1048576) (k : Nat) (hk : 3 * l.length + 40 < k) : impl_factDo.f k l f.f0 f.f1 f.f2 f.f3 f.f4 = some (stepOf l f) := by
  obtain ⟨k, rfl⟩ : ∃ m, k = m + 2 := ⟨k - 2, by omega⟩
  unfold impl_factDo.f stepOf
  rw [if_pos (by omega), impl_areLive_eq l 256 hwf hn _ (by omega), Option.bind_some]
  by_cases h : liveOk l 256 = true
  · rw [if_pos h, if_pos h, impl_factOk, Option.bind_some]
    by_cases h2 : factOk f.f0 f.f1 f.f2 f.f3 f.f4 = true
    · rw [if_pos h2, if_pos h2, impl_add_eq l 256 ⟨f.f3, f.f4⟩ hwf hb hn _ (by omega), impl_cut_eq l 256 f.f3 hwf hn _ (by omega), Option.bind_some]
      (repeat' split) <;> rfl
    · rw [if_neg h2, if_neg h2]
  · rw [if_neg h, if_neg h]
theorem stepOf_len (l : List BI) (f : S95) : (stepOf l f).1.length ≤ l.length + 1 := by
  have h1 := addOf_len l 256 ⟨f.f3, f.f4⟩
  have h2 := cutOf_len l 256 f.f3
  unfold stepOf
  (repeat' split) <;> first | exact h1 | (simp; done) | (simp; omega)
theorem stepOf_wf (l : List BI) (f : S95) (h : ∀ b ∈ l, wfB b) (hb : wfB ⟨f.f3, f.f4⟩) : ∀ x ∈ (stepOf l f).1, wfB x := by
  have h1 := addOf_wf l 256 ⟨f.f3, f.f4⟩ h hb
  have h2 := cutOf_wf l 256 f.f3 h
  unfold stepOf
  (repeat' split) <;> first | exact h1 | exact h2 | exact h | (simp; done)
end Go.Proofs.Ytmnjppfebaeoiaa.Base
