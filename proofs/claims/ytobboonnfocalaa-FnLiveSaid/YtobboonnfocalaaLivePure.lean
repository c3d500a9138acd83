/- Lists of live blocks: what is found, free, cut and added, and how these go together. Conditions: none. -/
import Derived.Test.YtobboonnfocalaaCutAdd
import Derived.Test.YtobboonnfocalaaFind
import Derived.Test.YtobboonnfocalaaPB1x10
import Derived.Test.YtobboonnfocalaaPB1x14
set_option linter.unusedVariables false
set_option linter.unusedSimpArgs false
namespace Go.Proofs.Ytobboonnfocalaa.Lv
open Go.RowKit Go.Proofs.Ytobboonnfocalaa.Base Go.Proofs.Ytobboonnfocalaa.PB1 Go.Proofs.Ytobboonnfocalaa.Sl Go.Proofs.YtobboonnfocalaaW.PrintWords Go.Proofs.YtobboonnfocalaaW.PrintLast

/-! ### find -/
/-- What the search from place i on comes to. -/
def resAt (l : List BI) (j : Int) : Int × Int × Bool := if j < 0 then (0, 0, false) else ((rd_T37 l j).f0, (rd_T37 l j).f1, true)
def found (l : List BI) (t : Int) (i : Nat) : Int × Int × Bool := resAt l (idxFrom (hits t) i (l.drop i))
theorem found_hit (l : List BI) (t : Int) (i : Nat) (hi : i < l.length) (c : hits t l[i] = true) : found l t i = (l[i].f0, l[i].f1, true) := by
  have e : idxFrom (hits t) i (l.drop i) = (i : Int) := by rw [List.drop_eq_getElem_cons hi, idxFrom, if_pos c]
  unfold found resAt
  rw [e, rdB l i hi]
  exact if_neg (by omega)
theorem found_miss (l : List BI) (t : Int) (i : Nat) (hi : i < l.length) (c : ¬ hits t l[i] = true) : found l t i = found l t (i + 1) := by
  have e : idxFrom (hits t) i (l.drop i) = idxFrom (hits t) (i + 1) (l.drop (i + 1)) := by rw [List.drop_eq_getElem_cons hi, idxFrom, if_neg c]
  unfold found
  rw [e]
def findOf (l : List BI) (w t : Int) : Int × Int × Bool := if liveOk l w = true then found l t 0 else (0, 0, false)
theorem impl_find_eq (l : List BI) (w t : Int) (hwf : ∀ b ∈ l, wfB b) (hn : l.length ≤ 1048576) (k : Nat) (hk : l.length + 1 < k) : impl_LiveFind.f k l w t = some (findOf l w t) := by
  unfold impl_LiveFind.f findOf
  rw [impl_areLive_eq l w hwf hn k hk, Option.bind_some]
  by_cases h : liveOk l w = true
  · rw [if_pos h, if_pos h]
    unfold found resAt idxOf
    rw [List.drop_zero]
    split <;> rfl
  · rw [if_neg h, if_neg h]


/-! ### free -/
/-- What is free from e on. -/
def free (w : Int) : Int → List BI → List BI
  | e, [] => if e < w then [⟨e, w - e⟩] else []
  | e, b :: r => (if e < b.f0 then [⟨e, b.f0 - e⟩] else []) ++ free w (b.f0 + b.f1) r
theorem free_len (w : Int) : ∀ (l : List BI) (e : Int), (free w e l).length ≤ l.length + 1
  | [], e => by unfold free; split <;> simp
  | b :: r, e => by
    have := free_len w r (b.f0 + b.f1)
    unfold free
    rw [List.length_append, List.length_cons]
    split <;> simp <;> omega

theorem impl_free (l : List BI) (w : Int) (hw0 : 0 ≤ w) (hw : w ≤ 256) (hn : l.length ≤ 300) : ∀ (d i : Nat) (e : Int) (acc : List BI) (k : Nat), i + d = l.length → d < k → 0 ≤ e → e ≤ w → chain w e (l.drop i) = true → acc.length ≤ 1000 + i →
    impl_LiveFree.l0 k w acc e l (l.length : Int) (i : Int) = some (acc ++ free w e (l.drop i))
  | 0, i, e, acc, k, hd, hk, h0, h1, hc, ha => by
    obtain ⟨k, rfl⟩ : ∃ m, k = m + 1 := ⟨k - 1, by omega⟩
    simp only [impl_LiveFree.l0]
    rw [if_neg (by omega), List.drop_of_length_le (by omega)]
    unfold free
    by_cases c : e < w
    · rw [if_pos c, if_pos (by omega), if_pos c, w64 (by omega) (by omega)]
    · rw [if_neg c, if_neg c, List.append_nil]
  | d + 1, i, e, acc, k, hd, hk, h0, h1, hc, ha => by
    obtain ⟨k, rfl⟩ : ∃ m, k = m + 1 := ⟨k - 1, by omega⟩
    have hi : i < l.length := by omega
    rw [List.drop_eq_getElem_cons hi] at hc ⊢
    simp only [impl_LiveFree.l0]
    rw [if_pos (by omega), if_pos (by omega), if_pos (by omega), rdB l i hi]
    generalize hbb : l[i] = b at hc ⊢
    simp only [chain, Bool.and_eq_true, decide_eq_true_eq] at hc
    obtain ⟨⟨c1, c2, c3⟩, c4⟩ := hc
    rw [w64 (n := b.f0 + b.f1) (by omega) (by omega), w64 (n := (i : Int) + 1) (by omega) (by omega), w64 (n := b.f0 - e) (by omega) (by omega), show (i : Int) + 1 = ((i + 1 : Nat) : Int) by omega]
    show _ = some (acc ++ ((if e < b.f0 then [⟨e, b.f0 - e⟩] else []) ++ free w (b.f0 + b.f1) (l.drop (i + 1))))
    by_cases c : b.f0 > e
    · rw [if_pos c, if_pos (by omega), if_pos (show e < b.f0 from c), impl_free l w hw0 hw hn d (i + 1) (b.f0 + b.f1) _ k (by omega) (by omega) (by omega) (by omega) c4 (by rw [List.length_append]; simp; omega), List.append_assoc]
    · rw [if_neg c, if_neg (show ¬ e < b.f0 from c), impl_free l w hw0 hw hn d (i + 1) (b.f0 + b.f1) _ k (by omega) (by omega) (by omega) (by omega) c4 (by omega), List.nil_append]

theorem spec_free (l : List BI) (w : Int) (hwf : ∀ b ∈ l, wfB b) (hw0 : 0 ≤ w) (hw : w ≤ 256) (hn : l.length ≤ 300) (hok : liveOk l w = true) : ∀ (d i : Nat) (e : Int) (acc : List BI) (k : Nat), i + d = l.length → 3 * d + l.length + 20 < k → 0 ≤ e → e ≤ w → chain w e (l.drop i) = true → acc.length ≤ 1000 + i →
    spec_LiveFree.l0 k l w acc e (i : Int) = some (acc ++ free w e (l.drop i))
  | 0, i, e, acc, k, hd, hk, h0, h1, hc, ha => by
    obtain ⟨k, rfl⟩ : ∃ m, k = m + 6 := ⟨k - 6, by omega⟩
    simp only [spec_LiveFree.l0]
    rw [spec_liveOk l w hwf (by omega) _ (by omega), hok]
    simp only [Option.bind_some, if_true, spec_LiveFree.j1, decide_eq_true_eq]
    rw [if_pos (by omega), if_neg (by omega), List.drop_of_length_le (by omega)]
    simp only [spec_LiveFree.j2, Option.bind_some]
    unfold free
    by_cases c : e < w
    · rw [if_pos (show w > e from c), if_pos (by omega), if_neg (by omega), if_pos c, w64 (n := w - e) (by omega) (by omega), w64 (n := (i : Int) + 1) (by omega) (by omega)]
      simp only [spec_LiveFree.l0]
      rw [spec_liveOk l w hwf (by omega) _ (by omega), hok]
      simp only [Option.bind_some, if_true, spec_LiveFree.j1, decide_eq_true_eq]
      rw [if_neg (by omega)]
    · rw [if_neg (show ¬ w > e from c), if_neg (by omega), if_neg c, w64 (n := (i : Int) + 1) (by omega) (by omega), List.append_nil]
      simp only [spec_LiveFree.l0]
      rw [spec_liveOk l w hwf (by omega) _ (by omega), hok]
      simp only [Option.bind_some, if_true, spec_LiveFree.j1, decide_eq_true_eq]
      rw [if_neg (by omega)]
  | d + 1, i, e, acc, k, hd, hk, h0, h1, hc, ha => by
    obtain ⟨k, rfl⟩ : ∃ m, k = m + 3 := ⟨k - 3, by omega⟩
    have hi : i < l.length := by omega
    rw [List.drop_eq_getElem_cons hi] at hc ⊢
    simp only [spec_LiveFree.l0]
    rw [spec_liveOk l w hwf (by omega) _ (by omega), hok]
    simp only [Option.bind_some, if_true, spec_LiveFree.j1, decide_eq_true_eq]
    rw [if_pos (by omega), if_pos (by omega), if_pos (by omega)]
    simp only [spec_LiveFree.j2, Option.bind_some]
    rw [rdB l i hi]
    generalize hbb : l[i] = b at hc ⊢
    simp only [chain, Bool.and_eq_true, decide_eq_true_eq] at hc
    obtain ⟨⟨c1, c2, c3⟩, c4⟩ := hc
    rw [if_pos (show (i : Int) < (l.length : Int) by omega), if_pos (show 0 ≤ (i : Int) by omega), w64 (n := b.f0 + b.f1) (by omega) (by omega), w64 (n := (i : Int) + 1) (by omega) (by omega), w64 (n := b.f0 - e) (by omega) (by omega), show (i : Int) + 1 = ((i + 1 : Nat) : Int) by omega]
    show _ = some (acc ++ ((if e < b.f0 then [⟨e, b.f0 - e⟩] else []) ++ free w (b.f0 + b.f1) (l.drop (i + 1))))
    by_cases c : b.f0 > e
    · rw [if_pos c, if_pos (by omega), if_pos (show e < b.f0 from c), spec_free l w hwf hw0 hw hn hok d (i + 1) (b.f0 + b.f1) _ k (by omega) (by omega) (by omega) (by omega) c4 (by rw [List.length_append]; simp; omega), List.append_assoc]
    · rw [if_neg c, if_pos (show (i : Int) < (l.length : Int) by omega), if_pos (show 0 ≤ (i : Int) by omega), if_neg (show ¬ e < b.f0 from c), spec_free l w hwf hw0 hw hn hok d (i + 1) (b.f0 + b.f1) _ k (by omega) (by omega) (by omega) (by omega) c4 (by omega), List.nil_append]

def freeOf (l : List BI) (w : Int) : List BI := if liveOk l w then free w 0 l else []
theorem impl_free_eq (l : List BI) (w : Int) (hwf : ∀ b ∈ l, wfB b) (hn : l.length ≤ 1048576) (k : Nat) (hk : l.length + 1 < k) : impl_LiveFree.f k l w = some (freeOf l w) := by
  unfold impl_LiveFree.f freeOf
  rw [impl_areLive_eq l w hwf hn k hk, Option.bind_some]
  by_cases h : liveOk l w = true
  · obtain ⟨p1, p2, p3, p4⟩ := ok_parts h
    rw [if_pos h, if_pos h]
    have := impl_free l w p1 p2 p3 l.length 0 0 [] k (by omega) (by omega) (by omega) (by omega) (by simpa using p4) (by simp)
    simpa using this
  · rw [if_neg h, if_neg h]
theorem spec_free_eq (l : List BI) (w : Int) (hwf : ∀ b ∈ l, wfB b) (hn : l.length ≤ 1048576) (k : Nat) (hk : 4 * l.length + 20 < k) : spec_LiveFree.f k l w = some (freeOf l w) := by
  unfold spec_LiveFree.f freeOf
  by_cases h : liveOk l w = true
  · obtain ⟨p1, p2, p3, p4⟩ := ok_parts h
    rw [if_pos h]
    have := spec_free l w hwf p1 p2 p3 h l.length 0 0 [] k (by omega) (by omega) (by omega) (by omega) (by simpa using p4) (by simp)
    simpa using this
  · rw [if_neg h]
    obtain ⟨k, rfl⟩ : ∃ m, k = m + 3 := ⟨k - 3, by omega⟩
    simp only [spec_LiveFree.l0]
    rw [spec_liveOk l w hwf (by omega) _ (by omega), Option.bind_some, if_neg h]
    simp [spec_LiveFree.j1]
theorem freeOf_len (l : List BI) (w : Int) (hn : l.length ≤ 1048576) : (freeOf l w).length ≤ 1048577 := by
  unfold freeOf
  split
  · have := free_len w l 0; omega
  · simp


/-! ### the lists alone -/
def hitB (t : Int) (b : BI) : Bool := decide (b.f0 ≤ t ∧ t < b.f0 + b.f1)
theorem chain_cons {w e : Int} {b : BI} {r : List BI} : chain w e (b :: r) = true ↔ (e ≤ b.f0 ∧ 1 ≤ b.f1 ∧ b.f0 + b.f1 ≤ w) ∧ chain w (b.f0 + b.f1) r = true := by
  simp only [chain, Bool.and_eq_true, decide_eq_true_eq]
theorem ins_nil (b : BI) : ins [] b = [b] := rfl
theorem ins_cons (x : BI) (r : List BI) (b : BI) : ins (x :: r) b = if x.f0 < b.f0 then x :: ins r b else b :: x :: r := by
  unfold ins posOf
  by_cases h : x.f0 < b.f0
  · rw [if_pos h, List.takeWhile_cons_of_pos (by exact decide_eq_true h), List.length_cons, List.take_succ_cons, List.drop_succ_cons, List.cons_append]
  · rw [if_neg h, List.takeWhile_cons_of_neg (by unfold below; simpa using h)]
    simp
/-- The words in blocks. -/
def sumB : List BI → Int
  | [] => 0
  | b :: r => b.f1 + sumB r
theorem sum_ins (b : BI) : ∀ l, sumB (ins l b) = sumB l + b.f1
  | [] => by simp only [ins_nil, sumB]; omega
  | x :: r => by
    rw [ins_cons]
    split
    · rw [sumB, sum_ins b r, sumB]; omega
    · rw [sumB, sumB]; omega
theorem sumB_append : ∀ p r : List BI, sumB (p ++ r) = sumB p + sumB r
  | [], r => by simp [sumB]
  | x :: p, r => by rw [List.cons_append, sumB, sumB, sumB_append p r]; omega
theorem sum_free (w : Int) : ∀ (l : List BI) (e : Int), e ≤ w → chain w e l = true → sumB l + sumB (free w e l) = w - e
  | [], e, he, _ => by
    unfold free
    split
    · simp only [sumB]; omega
    · simp only [sumB]; omega
  | b :: r, e, he, h => by
    obtain ⟨h1, h2⟩ := chain_cons.1 h
    have ih := sum_free w r (b.f0 + b.f1) h1.2.2 h2
    rw [free, sumB_append, sumB]
    split
    · simp only [sumB]; omega
    · simp only [sumB]; omega
theorem sum_range (w : Int) : ∀ (l : List BI) (e : Int), e ≤ w → chain w e l = true → 0 ≤ sumB l ∧ sumB l ≤ w - e
  | [], e, he, _ => by rw [sumB]; omega
  | b :: r, e, he, h => by
    obtain ⟨h1, h2⟩ := chain_cons.1 h
    have := sum_range w r _ h1.2.2 h2
    rw [sumB]; omega
theorem chain_lower {w e e' : Int} {l : List BI} (h : chain w e l = true) (he : e' ≤ e) : chain w e' l = true := by
  cases l with
  | nil => rfl
  | cons b r =>
    obtain ⟨h1, h2⟩ := chain_cons.1 h
    exact chain_cons.2 ⟨by omega, h2⟩
theorem no_hit (w : Int) : ∀ (l : List BI) (e t : Int), chain w e l = true → t < e → ∀ x ∈ l, hitB t x = false
  | [], e, t, _, _, x, hx => by cases hx
  | b :: r, e, t, h, ht, x, hx => by
    obtain ⟨h1, h2⟩ := chain_cons.1 h
    rcases List.mem_cons.1 hx with rfl | hx
    · exact decide_eq_false (by omega)
    · exact no_hit w r _ t h2 (by omega) x hx
theorem free_mem (w : Int) : ∀ (l : List BI) (e : Int), chain w e l = true → ∀ f ∈ free w e l, e ≤ f.f0 ∧ 1 ≤ f.f1 ∧ f.f0 < w ∧ f.f0 + f.f1 ≤ w ∧ ∀ x ∈ l, hitB f.f0 x = false
  | [], e, _, f, hf => by
    unfold free at hf
    split at hf
    · rw [List.mem_singleton] at hf
      subst hf
      exact ⟨by show e ≤ e; omega, by show 1 ≤ w - e; omega, by show e < w; omega, by show e + (w - e) ≤ w; omega, fun x hx => by cases hx⟩
    · cases hf
  | b :: r, e, h, f, hf => by
    obtain ⟨h1, h2⟩ := chain_cons.1 h
    rw [free] at hf
    rcases List.mem_append.1 hf with hf | hf
    · split at hf
      · rw [List.mem_singleton] at hf
        subst hf
        refine ⟨by show e ≤ e; omega, by show 1 ≤ b.f0 - e; omega, by show e < w; omega, by show e + (b.f0 - e) ≤ w; omega, fun x hx => ?_⟩
        rcases List.mem_cons.1 hx with rfl | hx
        · exact decide_eq_false (by show ¬ (_ ≤ e ∧ _); omega)
        · exact no_hit w r _ e h2 (by omega) x hx
      · cases hf
    · obtain ⟨q1, q2, q3, q4, q5⟩ := free_mem w r _ h2 f hf
      refine ⟨by omega, q2, q3, q4, fun x hx => ?_⟩
      rcases List.mem_cons.1 hx with rfl | hx
      · exact decide_eq_false (by omega)
      · exact q5 x hx
theorem twice_bad (w : Int) (b : BI) : ∀ (l : List BI) (e : Int), chain w e (ins (ins l b) b) = false
  | [], e => by
    rw [ins_nil, ins_cons, if_neg (by omega)]
    cases h : chain w e [b, b] with
    | false => rfl
    | true =>
      obtain ⟨h1, h2⟩ := chain_cons.1 h
      obtain ⟨h3, _⟩ := chain_cons.1 h2
      omega
  | x :: r, e => by
    rw [ins_cons]
    split
    · rename_i hx
      rw [ins_cons, if_pos hx]
      cases h : chain w e (x :: ins (ins r b) b) with
      | false => rfl
      | true =>
        have := (chain_cons.1 h).2
        rw [twice_bad w b r] at this
        cases this
    · rw [ins_cons, if_neg (by omega)]
      cases h : chain w e (b :: b :: x :: r) with
      | false => rfl
      | true =>
        obtain ⟨h1, h2⟩ := chain_cons.1 h
        obtain ⟨h3, _⟩ := chain_cons.1 h2
        omega
/-- The place of b in the list with b. -/
theorem ins_at (b : BI) : ∀ l : List BI, ∃ i, ∃ hi : i < (ins l b).length, (ins l b)[i] = b ∧ (∀ j (hj : j < i), ((ins l b)[j]'(by omega)).f0 < b.f0) ∧ (ins l b).take i ++ (ins l b).drop (i + 1) = l
  | [] => ⟨0, by rw [ins_nil]; simp, by simp [ins_nil], fun j hj => by omega, by simp [ins_nil]⟩
  | x :: r => by
    obtain ⟨i, hi, h1, h2, h3⟩ := ins_at b r
    by_cases hx : x.f0 < b.f0
    · have e : ins (x :: r) b = x :: ins r b := by rw [ins_cons, if_pos hx]
      refine ⟨i + 1, by rw [e, List.length_cons]; omega, by simp only [e, List.getElem_cons_succ]; exact h1, fun j hj => ?_, by rw [e, List.take_succ_cons, List.drop_succ_cons, List.cons_append, h3]⟩
      cases j with
      | zero => simp only [e, List.getElem_cons_zero]; exact hx
      | succ j => simp only [e, List.getElem_cons_succ]; exact h2 j (by omega)
    · have e : ins (x :: r) b = b :: x :: r := by rw [ins_cons, if_neg hx]
      exact ⟨0, by rw [e]; simp, by simp [e], fun j hj => by omega, by rw [e]; simp⟩
theorem before_miss (w : Int) : ∀ (l : List BI) (e : Int) (i : Nat) (hi : i < l.length) (t : Int), chain w e l = true → l[i].f0 ≤ t → ∀ j (hj : j < i), hitB t (l[j]'(by omega)) = false
  | x :: r, e, i, hi, t, h, ht, j, hj => by
    obtain ⟨h1, h2⟩ := chain_cons.1 h
    cases i with
    | zero => omega
    | succ i =>
      have hi' : i < r.length := by simpa using hi
      have hge : ∀ (l : List BI) (e : Int) (i : Nat) (hi : i < l.length), chain w e l = true → e ≤ l[i].f0 := by
        intro l
        induction l with
        | nil => intro e i hi _; simp at hi
        | cons y s ih =>
          intro e i hi h
          obtain ⟨h1, h2⟩ := chain_cons.1 h
          cases i with
          | zero => exact h1.1
          | succ i => have := ih _ i (by simpa using hi) h2; simp only [List.getElem_cons_succ]; omega
      simp only [List.getElem_cons_succ] at ht
      cases j with
      | zero =>
        have := hge r _ i hi' h2
        exact decide_eq_false (by show ¬ (_ ∧ _); simp only [List.getElem_cons_zero]; omega)
      | succ j => simpa using before_miss w r _ i hi' t h2 ht j (by omega)

theorem hits_eq {t : Int} {b : BI} (h0 : 0 ≤ b.f0 ∧ b.f0 ≤ 256) (h1 : 0 ≤ t ∧ t ≤ 256) : hits t b = hitB t b := by
  unfold hits hitB
  rw [w64 (by omega) (by omega), Bool.eq_iff_iff]
  simp only [Bool.and_eq_true, decide_eq_true_eq]
  omega
/-! ### the sums -/
theorem sumB_nonneg : ∀ l : List BI, (∀ x ∈ l, 0 ≤ x.f1) → 0 ≤ sumB l
  | [], _ => Int.le_refl _
  | x :: r, h => by
    have h1 := h x List.mem_cons_self
    have h2 := sumB_nonneg r (fun y hy => h y (List.mem_cons_of_mem _ hy))
    rw [sumB]
    omega
theorem sumB_drop (l : List BI) (i : Nat) (hi : i < l.length) : sumB (l.drop i) = (rd_T37 l (i : Int)).f1 + sumB (l.drop (i + 1)) := by
  rw [List.drop_eq_getElem_cons hi, sumB, rdB l i hi]
theorem impl_sum_at (l : List BI) (hp : ∀ x ∈ l, 0 ≤ x.f1) (hn : l.length ≤ 1048576) : ∀ (d i : Nat) (s : Int) (k : Nat), i + d = l.length → d < k → 0 ≤ s → s + sumB (l.drop i) ≤ 1000000 → impl_LiveSum.l0 k s l (l.length : Int) (i : Int) = some (s + sumB (l.drop i))
  | 0, i, s, k, hd, hk, h0, h1 => by
    obtain ⟨k, rfl⟩ : ∃ m, k = m + 1 := ⟨k - 1, by omega⟩
    rw [List.drop_eq_nil_of_le (by omega), sumB]
    simp only [impl_LiveSum.l0]
    rw [if_neg (by omega), Int.add_zero]
  | d + 1, i, s, k, hd, hk, h0, h1 => by
    obtain ⟨k, rfl⟩ : ∃ m, k = m + 1 := ⟨k - 1, by omega⟩
    have hi : i < l.length := by omega
    have hx : 0 ≤ (rd_T37 l (i : Int)).f1 := by rw [rdB l i hi]; exact hp _ (List.getElem_mem hi)
    have hr := sumB_nonneg (l.drop (i + 1)) (fun x hx => hp x (List.mem_of_mem_drop hx))
    rw [sumB_drop l i hi] at h1 ⊢
    have ih := impl_sum_at l hp hn d (i + 1) (s + (rd_T37 l (i : Int)).f1) k (by omega) (by omega) (by omega) (by omega)
    rw [show ((i + 1 : Nat) : Int) = (i : Int) + 1 by omega] at ih
    simp only [impl_LiveSum.l0]
    rw [if_pos (by omega), if_pos (by omega), if_pos (by omega), w64 (n := (i : Int) + 1) (by omega) (by omega), w64 (by omega) (by omega), ih, Int.add_assoc]
theorem spec_sum_at (l : List BI) (hp : ∀ x ∈ l, 0 ≤ x.f1) (hn : l.length ≤ 1048576) : ∀ (d i : Nat) (s : Int) (k : Nat), i + d = l.length → d < k → 0 ≤ s → s + sumB (l.drop i) ≤ 1000000 → spec_LiveSum.l0 k l s (i : Int) = some (s + sumB (l.drop i))
  | 0, i, s, k, hd, hk, h0, h1 => by
    obtain ⟨k, rfl⟩ : ∃ m, k = m + 1 := ⟨k - 1, by omega⟩
    rw [List.drop_eq_nil_of_le (by omega), sumB]
    simp only [spec_LiveSum.l0]
    rw [if_neg (by omega), Int.add_zero]
  | d + 1, i, s, k, hd, hk, h0, h1 => by
    obtain ⟨k, rfl⟩ : ∃ m, k = m + 1 := ⟨k - 1, by omega⟩
    have hi : i < l.length := by omega
    have hx : 0 ≤ (rd_T37 l (i : Int)).f1 := by rw [rdB l i hi]; exact hp _ (List.getElem_mem hi)
    have hr := sumB_nonneg (l.drop (i + 1)) (fun x hx => hp x (List.mem_of_mem_drop hx))
    rw [sumB_drop l i hi] at h1 ⊢
    have ih := spec_sum_at l hp hn d (i + 1) (s + (rd_T37 l (i : Int)).f1) k (by omega) (by omega) (by omega) (by omega)
    rw [show ((i + 1 : Nat) : Int) = (i : Int) + 1 by omega] at ih
    simp only [spec_LiveSum.l0]
    rw [if_pos (by omega), if_pos (by omega), w64 (n := (i : Int) + 1) (by omega) (by omega), w64 (by omega) (by omega), ih, Int.add_assoc]
theorem live_sizes {l : List BI} {w : Int} (h : liveOk l w = true) : (∀ x ∈ l, 0 ≤ x.f1) ∧ 0 ≤ sumB l ∧ sumB l ≤ w ∧ w ≤ 256 := by
  obtain ⟨h1, h2, h3, h4⟩ := ok_parts h
  have hm := chain_mem w l 0 h4
  have hr := sum_range w l 0 h1 h4
  exact ⟨fun x hx => by have := hm x hx; omega, hr.1, by omega, h2⟩
theorem impl_sum_eq (l : List BI) (w : Int) (hwf : ∀ b ∈ l, wfB b) (hn : l.length ≤ 1048576) (hok : liveOk l w = true) (k : Nat) (hk : l.length + 1 < k) : impl_LiveSum.f k l w = some (sumB l) := by
  obtain ⟨h1, h2, h3, h4⟩ := live_sizes hok
  unfold impl_LiveSum.f
  rw [impl_areLive_eq l w hwf hn k hk, Option.bind_some, if_pos hok]
  have := impl_sum_at l h1 hn l.length 0 0 k (by omega) (by omega) (by omega) (by rw [List.drop_zero]; omega)
  rw [List.drop_zero, Int.zero_add] at this
  exact this
theorem spec_sum_eq (l : List BI) (w : Int) (hwf : ∀ b ∈ l, wfB b) (hn : l.length ≤ 1048576) (hok : liveOk l w = true) (k : Nat) (hk : l.length + 1 < k) : spec_LiveSum.f k l w = some (sumB l) := by
  obtain ⟨h1, h2, h3, h4⟩ := live_sizes hok
  unfold spec_LiveSum.f
  rw [spec_liveOk l w hwf hn k hk, Option.bind_some, if_pos hok]
  have := spec_sum_at l h1 hn l.length 0 0 k (by omega) (by omega) (by omega) (by rw [List.drop_zero]; omega)
  rw [List.drop_zero, Int.zero_add] at this
  exact this

/-! ### what the law asks, of a list with a block that could be added -/
theorem add_parts {l : List BI} {w : Int} {b : BI} (h : (addOf l w b).2 = true) : liveOk l w = true ∧ liveOk (ins l b) w = true ∧ (addOf l w b).1 = ins l b := by
  unfold addOf at h ⊢
  by_cases h1 : liveOk l w = true
  · rw [if_pos h1] at h ⊢
    by_cases h2 : liveOk (ins l b) w = true
    · rw [if_pos h2] at h ⊢
      exact ⟨h1, h2, rfl⟩
    · rw [if_neg h2] at h
      cases h
  · rw [if_neg h1] at h
    cases h
theorem mem_ins (l : List BI) (b : BI) : b ∈ ins l b := by unfold ins; simp
theorem ins_range {l : List BI} {w : Int} {b : BI} (h : liveOk (ins l b) w = true) : 0 ≤ b.f0 ∧ 1 ≤ b.f1 ∧ b.f0 + b.f1 ≤ w ∧ w ≤ 256 := by
  obtain ⟨h1, h2, h3, h4⟩ := ok_parts h
  have := chain_mem w _ 0 h4 b (mem_ins l b)
  omega
theorem find_ins {l : List BI} {w : Int} {b : BI} (h : liveOk (ins l b) w = true) (t : Int) (h0 : 0 ≤ t) (h1 : t < b.f1) : findOf (ins l b) w (b.f0 + t) = (b.f0, b.f1, true) := by
  obtain ⟨q1, q2, q3, q4⟩ := ok_parts h
  have hr := ins_range h
  obtain ⟨i, hi, e1, e2, e3⟩ := ins_at b l
  have hm := chain_mem w _ 0 q4
  have hit : hits (b.f0 + t) (ins l b)[i] = true := by
    rw [e1, hits_eq (by omega) (by omega)]
    exact decide_eq_true (by omega)
  have hmiss : ∀ j (hj : j < i), hits (b.f0 + t) ((ins l b)[j]'(by omega)) = false := fun j hj => by
    have hx := hm ((ins l b)[j]'(by omega)) (List.getElem_mem _)
    rw [hits_eq (by omega) (by omega)]
    exact before_miss w (ins l b) 0 i hi (b.f0 + t) q4 (by rw [e1]; omega) j hj
  unfold findOf
  rw [if_pos h]
  have hf : idxFrom (hits (b.f0 + t)) 0 (ins l b) = ((0 + i : Nat) : Int) := idxFrom_hit _ _ 0 i hi hmiss hit
  unfold found resAt
  rw [List.drop_zero, hf, Nat.zero_add, rdB _ i hi, e1]
  exact if_neg (by omega)
theorem cut_ins {l : List BI} {w : Int} {b : BI} (h : liveOk (ins l b) w = true) : cutOf (ins l b) w b.f0 = (l, b.f1, true) := by
  obtain ⟨i, hi, e1, e2, e3⟩ := ins_at b l
  have hf : idxFrom (starts b.f0) 0 (ins l b) = ((0 + i : Nat) : Int) := idxFrom_hit _ _ 0 i hi (fun j hj => by
    have := e2 j hj
    unfold starts
    exact beq_eq_false_iff_ne.mpr (by omega)) (by unfold starts; rw [e1]; exact beq_iff_eq.mpr rfl)
  unfold cutOf
  rw [if_pos h]
  unfold cutFrom cutAt
  rw [List.drop_zero, hf, Nat.zero_add, rdB _ i hi, e1, if_neg (by omega), Int.toNat_natCast, e3]
theorem add_twice {l : List BI} {w : Int} {b : BI} : (addOf (ins l b) w b).2 = false := by
  have h : liveOk (ins (ins l b) b) w = false := by
    unfold liveOk
    rw [twice_bad w b l 0, Bool.and_false]
  unfold addOf
  split
  · rw [if_neg (by rw [h]; simp)]
  · rfl
theorem free_ins {l : List BI} {w : Int} (h : liveOk l w = true) : (∀ f ∈ freeOf l w, 1 ≤ f.f1 ∧ (0 ≤ f.f0 ∧ f.f0 < 256) ∧ f.f1 ≤ 256 ∧ findOf l w f.f0 = (0, 0, false)) ∧ sumB l + sumB (freeOf l w) = w := by
  obtain ⟨q1, q2, q3, q4⟩ := ok_parts h
  have hm := chain_mem w _ 0 q4
  unfold freeOf
  rw [if_pos h]
  refine ⟨fun f hf => ?_, by have := sum_free w l 0 q1 q4; omega⟩
  obtain ⟨r1, r2, r3, r4, r5⟩ := free_mem w l 0 q4 f hf
  refine ⟨r2, by omega, by omega, ?_⟩
  have hmiss : ∀ x ∈ l, hits f.f0 x = false := fun x hx => by
    have := hm x hx
    rw [hits_eq (by omega) (by omega)]
    exact r5 x hx
  unfold findOf
  rw [if_pos h]
  unfold found resAt
  rw [List.drop_zero, show idxFrom (hits f.f0) 0 l = -1 from idxFrom_miss _ l 0 (fun j hj => hmiss _ (List.getElem_mem hj))]
  exact if_pos (by omega)
end Go.Proofs.Ytobboonnfocalaa.Lv
