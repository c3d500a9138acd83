/- What LiveCut and LiveAdd come to, the program's and the reference's: one plain cut and one plain insertion. Conditions: none. -/
import Derived.Test.YtobboonnfocalaaLiveOk
import Derived.Test.YtobboonnfocalaaCut
import Derived.Test.YtobboonnfocalaaAdd
import Derived.Test.YtobboonnfocalaaPB1x12
set_option linter.unusedVariables false
set_option linter.unusedSimpArgs false
namespace Go.Proofs.Ytobboonnfocalaa.Base
open Go.RowKit Go.Proofs.Ytobboonnfocalaa.PB1 Go.Proofs.Ytobboonnfocalaa.Sl Go.Proofs.YtobboonnfocalaaW.PrintWords Go.Proofs.YtobboonnfocalaaW.PrintLast

theorem ok_parts {l : List BI} {w : Int} (h : liveOk l w = true) : 0 ≤ w ∧ w ≤ 256 ∧ l.length ≤ 300 ∧ chain w 0 l = true := by
  unfold liveOk at h
  simp only [Bool.and_eq_true, decide_eq_true_eq] at h
  exact ⟨h.1.1, h.1.2.1, h.1.2.2, h.2⟩
theorem chain_mem (w : Int) : ∀ (l : List BI) (e : Int), chain w e l = true → ∀ b ∈ l, e ≤ b.f0 ∧ 1 ≤ b.f1 ∧ b.f0 + b.f1 ≤ w
  | [], e, _, b, hb => by cases hb
  | x :: r, e, h, b, hb => by
    simp only [chain, Bool.and_eq_true, decide_eq_true_eq] at h
    rcases List.mem_cons.1 hb with rfl | hb
    · exact h.1
    · have := chain_mem w r _ h.2 b hb
      omega

/-! ### the cut -/
def cutAt (l : List BI) (j : Int) : List BI × Int × Bool := if j < 0 then ([], 0, false) else (l.take j.toNat ++ l.drop (j.toNat + 1), (rd_T37 l j).f1, true)
def cutFrom (l : List BI) (t : Int) (i : Nat) : List BI × Int × Bool := cutAt l (idxFrom (starts t) i (l.drop i))
def cutOf (l : List BI) (w t : Int) : List BI × Int × Bool := if liveOk l w = true then cutFrom l t 0 else ([], 0, false)
theorem cut_hit (l : List BI) (t : Int) (i : Nat) (hi : i < l.length) (c : (l[i]).f0 = t) : cutFrom l t i = (l.take i ++ l.drop (i + 1), l[i].f1, true) := by
  have e : idxFrom (starts t) i (l.drop i) = (i : Int) := by rw [List.drop_eq_getElem_cons hi, idxFrom, if_pos (by unfold starts; rw [c]; exact beq_self_eq_true t)]
  unfold cutFrom cutAt
  rw [e, rdB l i hi, Int.toNat_natCast]
  exact if_neg (by omega)
theorem cut_miss (l : List BI) (t : Int) (i : Nat) (hi : i < l.length) (c : ¬ (l[i]).f0 = t) : cutFrom l t i = cutFrom l t (i + 1) := by
  have e : idxFrom (starts t) i (l.drop i) = idxFrom (starts t) (i + 1) (l.drop (i + 1)) := by rw [List.drop_eq_getElem_cons hi, idxFrom, if_neg (by unfold starts; simpa using c)]
  unfold cutFrom
  rw [e]
theorem impl_cut_eq (l : List BI) (w t : Int) (hwf : ∀ b ∈ l, wfB b) (hn : l.length ≤ 1048576) (k : Nat) (hk : l.length + 1 < k) : impl_LiveCut.f k l w t = some (cutOf l w t) := by
  unfold impl_LiveCut.f cutOf cutFrom cutAt
  rw [List.drop_zero, if_pos (by omega), impl_areLive_eq l w hwf hn k hk, Option.bind_some]
  unfold idxOf
  by_cases h : liveOk l w = true
  · rw [if_pos h, if_pos h]
    split <;> rfl
  · rw [if_neg h, if_neg h]
    split <;> rfl
theorem cutOf_len (l : List BI) (w t : Int) : (cutOf l w t).1.length ≤ l.length := by
  unfold cutOf cutFrom cutAt
  split
  · split
    · simp
    · simp; omega
  · simp
theorem cutOf_wf (l : List BI) (w t : Int) (h : ∀ b ∈ l, wfB b) : ∀ b ∈ (cutOf l w t).1, wfB b := by
  unfold cutOf cutFrom cutAt
  split
  · split
    · simp
    · intro b hb
      rcases List.mem_append.1 hb with hb | hb
      · exact h b (List.mem_of_mem_take hb)
      · exact h b (List.mem_of_mem_drop hb)
  · simp

/-! ### the insertion -/
def addOf (l : List BI) (w : Int) (b : BI) : List BI × Bool := if liveOk l w = true then (if liveOk (ins l b) w = true then (ins l b, true) else ([], false)) else ([], false)
theorem ins_len (l : List BI) (b : BI) : (ins l b).length = l.length + 1 := by
  unfold ins
  have := posOf_le b.f0 l
  simp
  omega
theorem ins_wf (l : List BI) (b : BI) (h : ∀ b ∈ l, wfB b) (hb : wfB b) : ∀ x ∈ ins l b, wfB x := by
  intro x hx
  unfold ins at hx
  rcases List.mem_append.1 hx with hx | hx
  · exact h x (List.mem_of_mem_take hx)
  · rcases List.mem_cons.1 hx with rfl | hx
    · exact hb
    · exact h x (List.mem_of_mem_drop hx)
theorem pos_before (t : Int) : ∀ (l : List BI) (i : Nat) (hi : i < l.length), i < posOf t l → l[i].f0 < t
  | x :: r, i, hi, h => by
    unfold posOf at h
    by_cases hx : below t x = true
    · rw [List.takeWhile_cons_of_pos hx, List.length_cons] at h
      cases i with
      | zero => exact of_decide_eq_true hx
      | succ i => exact pos_before t r i (by simpa using hi) (by unfold posOf; omega)
    · rw [List.takeWhile_cons_of_neg hx] at h
      simp at h
theorem pos_at (t : Int) : ∀ (l : List BI) (hi : posOf t l < l.length), ¬ l[posOf t l].f0 < t
  | [], hi => by simp at hi
  | x :: r, hi => by
    by_cases hx : below t x = true
    · have e : posOf t (x :: r) = posOf t r + 1 := by unfold posOf; rw [List.takeWhile_cons_of_pos hx, List.length_cons]
      have := pos_at t r (by rw [e] at hi; simpa using hi)
      simpa [e] using this
    · have e : posOf t (x :: r) = 0 := by unfold posOf; rw [List.takeWhile_cons_of_neg hx]; rfl
      simp only [e, List.getElem_cons_zero]
      exact fun h => hx (decide_eq_true h)
theorem spec_add (l : List BI) (w : Int) (b : BI) (hwf : ∀ b ∈ l, wfB b) (hb : wfB b) (hn : l.length ≤ 300) : ∀ (d i k : Nat), i + d = posOf b.f0 l → 2 * l.length + d + 20 < k → spec_LiveAdd.l0 k l w (i : Int) b.f0 b.f1 = some (if liveOk (ins l b) w = true then (ins l b, true) else ([], false))
  | 0, i, k, hd, hk => by
    obtain ⟨k, rfl⟩ : ∃ m, k = m + 1 := ⟨k - 1, by omega⟩
    have hp := posOf_le b.f0 l
    have hi : i = posOf b.f0 l := by omega
    have he : ([] ++ l.take (i : Int).toNat) ++ [(⟨b.f0, b.f1⟩ : BI)] ++ l.drop (i : Int).toNat = ins l b := by
      rw [List.nil_append, Int.toNat_natCast, List.append_assoc, List.singleton_append]
      unfold ins
      rw [← hi]
    have hl := ins_len l b
    have hS := spec_liveOk (ins l b) w (ins_wf l b hwf hb) (by omega) k (by omega)
    have h1 : ([] : List BI).length + (l.take (i : Int).toNat).length < 8796093022208 := by rw [List.length_nil, List.length_take]; omega
    have h2 : (([] : List BI) ++ l.take (i : Int).toNat).length + [(⟨b.f0, b.f1⟩ : BI)].length < 8796093022208 := by rw [List.length_append, List.length_nil, List.length_take, List.length_singleton]; omega
    have h3 : ((([] : List BI) ++ l.take (i : Int).toNat) ++ [(⟨b.f0, b.f1⟩ : BI)]).length + (l.drop (i : Int).toNat).length < 8796093022208 := by rw [List.length_append, List.length_append, List.length_nil, List.length_take, List.length_singleton, List.length_drop]; omega
    have fin : ∀ o : Option Bool, o = some (liveOk (ins l b) w) → (o.bind fun t301 => if t301 = true then some (ins l b, true) else some ([], false)) = some (if liveOk (ins l b) w = true then (ins l b, true) else ([], false)) := by
      rintro o rfl
      rw [Option.bind_some]
      split <;> rfl
    rw [spec_LiveAdd.l0]
    by_cases hlt : i < l.length
    · have hnp := pos_at b.f0 l (by omega)
      simp only [← hi] at hnp
      rw [if_pos (by omega), if_pos (by omega), rdB l i hlt, if_neg hnp, Option.bind_some, if_pos (by omega), Option.bind_some, if_pos h1, Option.bind_some, Option.bind_some, if_pos h2, Option.bind_some, Option.bind_some, if_pos h3, Option.bind_some, he]
      exact fin _ hS
    · rw [if_neg (by omega), Option.bind_some, if_pos (by omega), if_pos (by omega), Option.bind_some, if_pos h1, Option.bind_some, Option.bind_some, if_pos h2, Option.bind_some, Option.bind_some, if_pos h3, Option.bind_some, he]
      exact fin _ hS
  | d + 1, i, k, hd, hk => by
    obtain ⟨k, rfl⟩ : ∃ m, k = m + 1 := ⟨k - 1, by omega⟩
    have hp := posOf_le b.f0 l
    have hi : i < l.length := by omega
    have ih := spec_add l w b hwf hb hn d (i + 1) k (by omega) (by omega)
    rw [spec_LiveAdd.l0, if_pos (by omega), if_pos (by omega), rdB l i hi, if_pos (pos_before b.f0 l i hi (by omega)), w64 (n := (i : Int) + 1) (by omega) (by omega), show (i : Int) + 1 = ((i + 1 : Nat) : Int) by omega, ih]
theorem spec_add_eq (l : List BI) (w : Int) (b : BI) (hwf : ∀ b ∈ l, wfB b) (hb : wfB b) (hn : l.length ≤ 1048576) (k : Nat) (hk : 3 * l.length + 30 < k) : spec_LiveAdd.f k l w b.f0 b.f1 = some (addOf l w b) := by
  unfold spec_LiveAdd.f addOf
  rw [spec_liveOk l w hwf hn _ (by omega), Option.bind_some]
  by_cases h : liveOk l w = true
  · rw [if_pos h, if_pos h]
    have hp := posOf_le b.f0 l
    exact spec_add l w b hwf hb (ok_parts h).2.2.1 (posOf b.f0 l) 0 k (by omega) (by omega)
  · rw [if_neg h, if_neg h]
theorem impl_add_eq (l : List BI) (w : Int) (b : BI) (hwf : ∀ b ∈ l, wfB b) (hb : wfB b) (hn : l.length ≤ 1048576) (k : Nat) (hk : l.length + 2 < k) : impl_LiveAdd.f k l w b.f0 b.f1 = some (addOf l w b) := by
  unfold impl_LiveAdd.f addOf
  rw [if_pos (by omega), impl_areLive_eq l w hwf hn _ (by omega), Option.bind_some]
  by_cases h : liveOk l w = true
  · have h3 := (ok_parts h).2.2.1
    have hl := ins_len l b
    rw [if_pos h, if_pos h, impl_areLive_eq (ins l b) w (ins_wf l b hwf hb) (by omega) _ (by omega), Option.bind_some]
    split <;> rfl
  · rw [if_neg h, if_neg h]
theorem addOf_len (l : List BI) (w : Int) (b : BI) : (addOf l w b).1.length ≤ l.length + 1 := by
  have := ins_len l b
  unfold addOf
  (repeat' split) <;> simp <;> omega
theorem addOf_wf (l : List BI) (w : Int) (b : BI) (h : ∀ b ∈ l, wfB b) (hb : wfB b) : ∀ x ∈ (addOf l w b).1, wfB x := by
  unfold addOf
  split
  · split
    · exact ins_wf l b h hb
    · simp
  · simp
end Go.Proofs.Ytobboonnfocalaa.Base
