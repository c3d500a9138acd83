/- The program's Answers returns what the reference's Answers returns, for every list of facts, warp and lane. Conditions: none. -/
import Derived.Test.YtgccnoknhffhjaaLawFact
import Derived.Test.YtgccnoknhffhjaaPA1x14
import Derived.Test.YtgccnoknhffhjaaPA1x15
import Derived.Test.YtgccnoknhffhjaaPA1x16
set_option linter.unusedVariables false
set_option linter.unusedSimpArgs false
namespace Go.Proofs.Ytgccnoknhffhjaa.Pure
open Go.RowKit Go.Proofs.Ytgccnoknhffhjaa.Base Go.Proofs.Ytgccnoknhffhjaa.PA1 Go.Proofs.YtgccnoknhffhjaaW.PrintWords Go.Proofs.YtgccnoknhffhjaaW.PrintLast

def answers (w n : Int) : List FI → List Int
  | [] => []
  | f :: r => (if f.f1 = w ∧ f.f2 = n then [if f.f0 = 1 then f.f3 else if f.f0 = 2 then 1 else -2] else []) ++ answers w n r
theorem answers_len (w n : Int) : ∀ l, (answers w n l).length ≤ l.length
  | [] => by simp [answers]
  | f :: r => by
    have := answers_len w n r
    unfold answers
    rw [List.length_append, List.length_cons]
    split <;> simp <;> omega
theorem impl_ans (l : List FI) (w n : Int) (hn : l.length ≤ 2000) : ∀ (d i : Nat) (acc : List Int) (k : Nat), i + d = l.length → 2 * d < k → acc.length ≤ i →
    impl_Answers.l0 k w n acc l (l.length : Int) (i : Int) = some (acc ++ answers w n (l.drop i))
  | 0, i, acc, k, hd, hk, ha => by
    obtain ⟨k, rfl⟩ : ∃ m, k = m + 1 := ⟨k - 1, by omega⟩
    simp only [impl_Answers.l0]
    rw [if_neg (by omega), List.drop_of_length_le (by omega)]
    simp [answers]
  | d + 1, i, acc, k, hd, hk, ha => by
    obtain ⟨k, rfl⟩ : ∃ m, k = m + 2 := ⟨k - 2, by omega⟩
    have hi : i < l.length := by omega
    have ih := fun acc' h => impl_ans l w n hn d (i + 1) acc' k (by omega) (by omega) h
    have ih' := fun acc' h => impl_ans l w n hn d (i + 1) acc' (k) (by omega) (by omega) h
    rw [List.drop_eq_getElem_cons hi]
    simp only [impl_Answers.l0, impl_Answers.j1]
    rw [if_pos (by omega), if_pos (by omega), if_pos (by omega), rdFI l i hi, w64 (n := (i : Int) + 1) (by omega) (by omega), show (i : Int) + 1 = ((i + 1 : Nat) : Int) by omega]
    generalize hbb : l[i] = b
    show _ = some (acc ++ ((if b.f1 = w ∧ b.f2 = n then [if b.f0 = 1 then b.f3 else if b.f0 = 2 then 1 else -2] else []) ++ answers w n (l.drop (i + 1))))
    by_cases c1 : b.f1 = w
    · rw [if_pos c1]
      by_cases c2 : b.f2 = n
      · rw [if_neg (by simp [c2]), if_pos (show b.f1 = w ∧ b.f2 = n from ⟨c1, c2⟩)]
        by_cases c3 : b.f0 = 1
        · rw [if_pos c3, if_pos (by omega), if_pos c3, ih _ (by simp; omega), List.append_assoc]
        · rw [if_neg c3, if_neg c3]
          by_cases c4 : b.f0 = 2
          · rw [if_pos c4, if_pos (by omega), if_pos c4, ih _ (by simp; omega), List.append_assoc]
          · rw [if_neg c4, if_pos (by omega), if_neg c4, ih _ (by simp; omega), List.append_assoc]
      · rw [if_pos (by simpa using c2), if_neg (by intro h; exact c2 h.2), List.nil_append, ih _ (by omega)]
    · rw [if_neg c1, if_pos trivial, if_neg (by intro h; exact c1 h.1), List.nil_append, ih _ (by omega)]
theorem spec_ans (l : List FI) (w n : Int) (hn : l.length ≤ 2000) : ∀ (d i : Nat) (acc : List Int) (k : Nat), i + d = l.length → 3 * d + 3 < k → acc.length ≤ i →
    spec_Answers.l0 k l w n acc (i : Int) = some (acc ++ answers w n (l.drop i))
  | 0, i, acc, k, hd, hk, ha => by
    obtain ⟨k, rfl⟩ : ∃ m, k = m + 3 := ⟨k - 3, by omega⟩
    simp only [spec_Answers.l0, spec_Answers.j1]
    rw [if_neg (by omega), List.drop_of_length_le (by omega)]
    simp [answers]
  | d + 1, i, acc, k, hd, hk, ha => by
    obtain ⟨k, rfl⟩ : ∃ m, k = m + 3 := ⟨k - 3, by omega⟩
    have hi : i < l.length := by omega
    have ih := fun acc' h => spec_ans l w n hn d (i + 1) acc' k (by omega) (by omega) h
    rw [List.drop_eq_getElem_cons hi]
    simp only [spec_Answers.l0, spec_Answers.j1, spec_Answers.j2, decide_eq_true_eq]
    rw [if_pos (show (i : Int) < (l.length : Int) by omega), if_pos (show (l.length : Int) ≤ 2000 by omega), rdFI l i hi, w64 (n := (i : Int) + 1) (by omega) (by omega), show (i : Int) + 1 = ((i + 1 : Nat) : Int) by omega]
    have p1 : (0 : Int) ≤ (i : Int) := by omega
    have p2 : (i : Int) < (l.length : Int) := by omega
    simp only [if_pos p1, if_pos p2]
    generalize hbb : l[i] = b
    show _ = some (acc ++ ((if b.f1 = w ∧ b.f2 = n then [if b.f0 = 1 then b.f3 else if b.f0 = 2 then 1 else -2] else []) ++ answers w n (l.drop (i + 1))))
    by_cases c1 : b.f1 = w
    · rw [if_pos c1]
      by_cases c2 : b.f2 = n
      · rw [if_neg (by simp [c2]), if_pos (show b.f1 = w ∧ b.f2 = n from ⟨c1, c2⟩)]
        by_cases c3 : b.f0 = 1
        · rw [if_pos c3, if_pos (by omega), if_pos c3, ih _ (by simp; omega), List.append_assoc]
        · rw [if_neg c3, if_neg c3]
          by_cases c4 : b.f0 = 2
          · rw [if_pos c4, if_pos (by omega), if_pos c4, ih _ (by simp; omega), List.append_assoc]
          · rw [if_neg c4, if_pos (by omega), if_neg c4, ih _ (by simp; omega), List.append_assoc]
      · rw [if_pos (by simpa using c2), if_neg (by intro h; exact c2 h.2), List.nil_append, ih _ (by omega)]
    · rw [if_neg c1, if_pos trivial, if_neg (by intro h; exact c1 h.1), List.nil_append, ih _ (by omega)]
def answersOf (w n : Int) (l : List FI) : List Int := if l.length ≤ 2000 then answers w n l else []
theorem impl_answers (l : List FI) (w n : Int) (k : Nat) (hk : 2 * l.length + 10 < k) : impl_Answers.f k l w n = some (answersOf w n l) := by
  unfold impl_Answers.f answersOf
  by_cases c : l.length ≤ 2000
  · rw [if_neg (by omega), if_pos c]
    have := impl_ans l w n c l.length 0 [] k (by omega) (by omega) (by simp)
    simpa using this
  · rw [if_pos (by omega), if_neg c]
theorem spec_answers (l : List FI) (w n : Int) (k : Nat) (hk : 3 * l.length + 10 < k) : spec_Answers.f k l w n = some (answersOf w n l) := by
  unfold spec_Answers.f answersOf
  by_cases c : l.length ≤ 2000
  · rw [if_pos c]
    have := spec_ans l w n c l.length 0 [] k (by omega) (by omega) (by simp)
    simpa using this
  · rw [if_neg c]
    obtain ⟨k, rfl⟩ : ∃ m, k = m + 3 := ⟨k - 3, by omega⟩
    simp only [spec_Answers.l0, spec_Answers.j1, decide_eq_true_eq]
    split
    · rw [if_neg (by omega)]
    · simp
theorem answersOf_len (w n : Int) (l : List FI) : (answersOf w n l).length ≤ l.length := by
  unfold answersOf
  split
  · exact answers_len w n l
  · simp

theorem FnExactAnswers : laws_FnExactAnswers.Pure := by
  intro l w n ⟨hn, hl⟩ _ _
  refine ⟨4 * l.length + 50, ?_⟩
  unfold laws_FnExactAnswers.f
  rw [szFactS_eq l _ hn (by omega) (by omega)]
  simp only [Option.bind_some]
  by_cases c : (1048576 : Int) < l.length
  · rw [if_pos c, if_pos (by omega)]
  · rw [if_neg c, if_neg (by omega)]
    have hlen : (l.map toF).length = l.length := List.length_map ..
    generalize hm : l.map toF = m at hlen
    have hal := answersOf_len w n m
    have hT : ∀ k, l.length < k → laws_toFactS.f k l = some m := fun k hk => by rw [toFactS_eq l (by omega) k hk, hm]
    have e1 := hT (4 * l.length + 50) (by omega)
    have e2 := spec_answers m w n (4 * l.length + 50) (by omega)
    have e3 := impl_answers m w n (4 * l.length + 50) (by omega)
    have e4 := eqIntS_self (answersOf w n m) (by omega) (4 * l.length + 50) (by omega)
    have e5 := eqFactS_self m (by omega) (4 * l.length + 50) (by omega)
    obtain ⟨mm, e6⟩ := markFactS_eq m (by omega) (4 * l.length + 50) (by omega)
    have f1 := hT (4 * l.length + 49) (by omega)
    have f3 := impl_answers m w n (4 * l.length + 49) (by omega)
    have f4 := eqIntS_self (answersOf w n m) (by omega) (4 * l.length + 49) (by omega)
    have f6 := markIntS_eq (answersOf w n m) (by omega) (4 * l.length + 49) (by omega)
    have f7 := heldIntS_eq (answersOf w n m).length (by omega) (4 * l.length + 49) (by omega)
    simp only [e1, e2, e3, e4, e5, e6, Option.bind_some, if_true, laws_FnExactAnswers.j0, f1, f3, f4, f6, f7, Bool.not_true, Bool.false_eq_true, if_false]
    rw [if_neg (by omega), if_neg (by omega), if_neg (by omega)]

end Go.Proofs.Ytgccnoknhffhjaa.Pure
