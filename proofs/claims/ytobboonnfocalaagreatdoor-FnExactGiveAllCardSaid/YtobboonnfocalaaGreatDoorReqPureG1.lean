/- The reference's test of a request comes to the program's. Conditions: none. -/
import Derived.Test.YtobboonnfocalaaGreatDoorLawIntsG1
import Derived.Test.YtobboonnfocalaaGreatDoorIsReqG1
import Derived.Test.YtobboonnfocalaaGreatDoorPG1x0
set_option linter.unusedVariables false
set_option linter.unusedSimpArgs false
namespace Go.Proofs.YtobboonnfocalaaGreatDoor.Base
open Go.RowKit Go.Proofs.YtobboonnfocalaaGreatDoor.PG1 Go.Proofs.YtobboonnfocalaaGreatDoorW.PrintWords Go.Proofs.YtobboonnfocalaaGreatDoorW.PrintLast Go.Proofs.YtobboonnfocalaaGreatDoorW.PrintMore
theorem spec_req_loop (c : Int) (l : List Int) (hl : l.length = 8) (hc : c = 1 ∨ c = 2) : ∀ (d i k : Nat), i + d = 8 → d < k →
    spec_ReqOk.l0 k (i : Int) c l = some ((l.drop i).all fun n => if c = 1 then decide (0 ≤ n ∧ n ≤ 256) else decide (-1 ≤ n ∧ n ≤ 4095))
  | 0, i, k, hd, hk => by
    obtain ⟨k, rfl⟩ : ∃ m, k = m + 1 := ⟨k - 1, by omega⟩
    simp only [spec_ReqOk.l0]
    rw [if_neg (by omega), List.drop_of_length_le (by omega)]
    rfl
  | d + 1, i, k, hd, hk => by
    obtain ⟨k, rfl⟩ : ∃ m, k = m + 1 := ⟨k - 1, by omega⟩
    have hi : i < l.length := by omega
    have ih := spec_req_loop c l hl hc d (i + 1) k (by omega) (by omega)
    rw [show ((i + 1 : Nat) : Int) = (i : Int) + 1 by omega] at ih
    simp only [spec_ReqOk.l0]
    rw [if_pos (by omega), if_pos (by omega), rdI l i hi, List.drop_eq_getElem_cons hi, w64 (n := (i : Int) + 1) (by omega) (by omega), List.all_cons]
    generalize l[i] = n
    rcases hc with rfl | rfl
    · rw [if_pos rfl, if_neg (show ¬ ((1 : Int) = 2) by decide)]
      simp only [if_true] at ih ⊢
      by_cases c1 : n < 0
      · rw [if_pos c1]; simp [show ¬ (0 ≤ n) by omega]
      rw [if_neg c1]
      by_cases c2 : n > 256
      · rw [if_pos c2]; simp [show ¬ (n ≤ 256) by omega]
      rw [if_neg c2, ih]
      simp [show 0 ≤ n by omega, show n ≤ 256 by omega]
    · rw [if_neg (show ¬ ((2 : Int) = 1) by decide), if_pos rfl]
      simp only [show ¬ ((2 : Int) = 1) by decide, if_false] at ih ⊢
      by_cases c1 : n < -1
      · rw [if_pos c1]; simp [show ¬ (-1 ≤ n) by omega]
      rw [if_neg c1]
      by_cases c2 : n > 4095
      · rw [if_pos c2]; simp [show ¬ (n ≤ 4095) by omega]
      rw [if_neg c2, ih]
      simp [show -1 ≤ n by omega, show n ≤ 4095 by omega]
theorem spec_req (c : Int) (l : List Int) (k : Nat) (hk : 10 < k) : spec_ReqOk.f k c l = some (reqOk c l) := by
  obtain ⟨k, rfl⟩ : ∃ m, k = m + 1 := ⟨k - 1, by omega⟩
  unfold spec_ReqOk.f reqOk
  simp only [spec_ReqOk.j0]
  by_cases hl : l.length = 8
  · rw [if_pos (by omega), decide_eq_true hl]
    by_cases c1 : c = 1
    · have h := spec_req_loop c l hl (.inl c1) 8 0 k (by omega) (by omega)
      rw [show ((0 : Nat) : Int) = 0 from rfl] at h
      subst c1
      simpa using h
    · rw [if_neg c1]
      by_cases c2 : c = 2
      · have h := spec_req_loop c l hl (.inr c2) 8 0 k (by omega) (by omega)
        rw [show ((0 : Nat) : Int) = 0 from rfl] at h
        subst c2
        simpa using h
      · rw [if_pos (by simpa using c2)]; simp [c1, c2]
  · rw [if_neg (by omega)]; simp [hl]
theorem impl_req (c : Int) (l : List Int) : impl_isReq.f c l = some (reqOk c l) := rfl
end Go.Proofs.YtobboonnfocalaaGreatDoor.Base
