/- The program's LiveFree returns what the reference's LiveFree returns, for every list of blocks and every number of words. Conditions: none. -/
import Derived.Test.YtgccnoknhffhjaaLawBlock
import Derived.Test.YtgccnoknhffhjaaPA1x27
import Derived.Test.YtgccnoknhffhjaaPA1x28
import Derived.Test.YtgccnoknhffhjaaPA1x3
namespace Go.Proofs.Ytgccnoknhffhjaa.Pure
open Go.RowKit Go.Proofs.Ytgccnoknhffhjaa.Base Go.Proofs.Ytgccnoknhffhjaa.PA1 Go.Proofs.YtgccnoknhffhjaaW.PrintWords Go.Proofs.YtgccnoknhffhjaaW.PrintLast

/-- What is free from e on. -/
def free (w : Int) : Int → List BI → List BI
  | e, [] => if e < w then [⟨e, w - e⟩] else []
  | e, b :: r => (if e < b.f0 then [⟨e, b.f0 - e⟩] else []) ++ free w (b.f0 + b.f1) r
theorem free_len (w : Int) : ∀ (l : List BI) (e : Int), (free w e l).length ≤ l.length + 1
  | [], e => by unfold free; split <;> simp
  | b :: r, e => by
    have := free_len w r (b.f0 + b.f1)
    unfold free
    rw [List.length_append, List.length_cons]
    split <;> simp <;> omega

theorem impl_free (l : List BI) (w : Int) (hw0 : 0 ≤ w) (hw : w ≤ 256) (hn : l.length ≤ 300) : ∀ (d i : Nat) (e : Int) (acc : List BI) (k : Nat), i + d = l.length → d < k → 0 ≤ e → e ≤ w → chain w e (l.drop i) = true → acc.length ≤ 1000 + i →
    impl_LiveFree.l0 k w acc e l (l.length : Int) (i : Int) = some (acc ++ free w e (l.drop i))
  | 0, i, e, acc, k, hd, hk, h0, h1, hc, ha => by
    obtain ⟨k, rfl⟩ : ∃ m, k = m + 1 := ⟨k - 1, by omega⟩
    simp only [impl_LiveFree.l0]
    rw [if_neg (by omega), List.drop_of_length_le (by omega)]
    unfold free
    by_cases c : e < w
    · rw [if_pos c, if_pos (by omega), if_pos c, w64 (by omega) (by omega)]
    · rw [if_neg c, if_neg c, List.append_nil]
  | d + 1, i, e, acc, k, hd, hk, h0, h1, hc, ha => by
    obtain ⟨k, rfl⟩ : ∃ m, k = m + 1 := ⟨k - 1, by omega⟩
    have hi : i < l.length := by omega
    rw [List.drop_eq_getElem_cons hi] at hc ⊢
    simp only [impl_LiveFree.l0]
    rw [if_pos (by omega), if_pos (by omega), if_pos (by omega), rdB l i hi]
    generalize hbb : l[i] = b at hc ⊢
    simp only [chain, Bool.and_eq_true, decide_eq_true_eq] at hc
    obtain ⟨⟨c1, c2, c3⟩, c4⟩ := hc
    rw [w64 (n := b.f0 + b.f1) (by omega) (by omega), w64 (n := (i : Int) + 1) (by omega) (by omega), w64 (n := b.f0 - e) (by omega) (by omega), show (i : Int) + 1 = ((i + 1 : Nat) : Int) by omega]
    show _ = some (acc ++ ((if e < b.f0 then [⟨e, b.f0 - e⟩] else []) ++ free w (b.f0 + b.f1) (l.drop (i + 1))))
    by_cases c : b.f0 > e
    · rw [if_pos c, if_pos (by omega), if_pos (show e < b.f0 from c), impl_free l w hw0 hw hn d (i + 1) (b.f0 + b.f1) _ k (by omega) (by omega) (by omega) (by omega) c4 (by rw [List.length_append]; simp; omega), List.append_assoc]
    · rw [if_neg c, if_neg (show ¬ e < b.f0 from c), impl_free l w hw0 hw hn d (i + 1) (b.f0 + b.f1) _ k (by omega) (by omega) (by omega) (by omega) c4 (by omega), List.nil_append]

theorem spec_free (l : List BI) (w : Int) (hwf : ∀ b ∈ l, wfB b) (hw0 : 0 ≤ w) (hw : w ≤ 256) (hn : l.length ≤ 300) (hok : liveOk l w = true) : ∀ (d i : Nat) (e : Int) (acc : List BI) (k : Nat), i + d = l.length → 3 * d + l.length + 20 < k → 0 ≤ e → e ≤ w → chain w e (l.drop i) = true → acc.length ≤ 1000 + i →
    spec_LiveFree.l0 k l w acc e (i : Int) = some (acc ++ free w e (l.drop i))
  | 0, i, e, acc, k, hd, hk, h0, h1, hc, ha => by
    obtain ⟨k, rfl⟩ : ∃ m, k = m + 6 := ⟨k - 6, by omega⟩
    simp only [spec_LiveFree.l0]
    rw [spec_liveOk l w hwf (by omega) _ (by omega), hok]
    simp only [Option.bind_some, if_true, spec_LiveFree.j1, decide_eq_true_eq]
    rw [if_pos (by omega), if_neg (by omega), List.drop_of_length_le (by omega)]
    simp only [spec_LiveFree.j2, Option.bind_some]
    unfold free
    by_cases c : e < w
    · rw [if_pos (show w > e from c), if_pos (by omega), if_neg (by omega), if_pos c, w64 (n := w - e) (by omega) (by omega), w64 (n := (i : Int) + 1) (by omega) (by omega)]
      simp only [spec_LiveFree.l0]
      rw [spec_liveOk l w hwf (by omega) _ (by omega), hok]
      simp only [Option.bind_some, if_true, spec_LiveFree.j1, decide_eq_true_eq]
      rw [if_neg (by omega)]
    · rw [if_neg (show ¬ w > e from c), if_neg (by omega), if_neg c, w64 (n := (i : Int) + 1) (by omega) (by omega), List.append_nil]
      simp only [spec_LiveFree.l0]
      rw [spec_liveOk l w hwf (by omega) _ (by omega), hok]
      simp only [Option.bind_some, if_true, spec_LiveFree.j1, decide_eq_true_eq]
      rw [if_neg (by omega)]
  | d + 1, i, e, acc, k, hd, hk, h0, h1, hc, ha => by
    obtain ⟨k, rfl⟩ : ∃ m, k = m + 3 := ⟨k - 3, by omega⟩
    have hi : i < l.length := by omega
    rw [List.drop_eq_getElem_cons hi] at hc ⊢
    simp only [spec_LiveFree.l0]
    rw [spec_liveOk l w hwf (by omega) _ (by omega), hok]
    simp only [Option.bind_some, if_true, spec_LiveFree.j1, decide_eq_true_eq]
    rw [if_pos (by omega), if_pos (by omega), if_pos (by omega)]
    simp only [spec_LiveFree.j2, Option.bind_some]
    rw [rdB l i hi]
    generalize hbb : l[i] = b at hc ⊢
    simp only [chain, Bool.and_eq_true, decide_eq_true_eq] at hc
    obtain ⟨⟨c1, c2, c3⟩, c4⟩ := hc
    rw [if_pos (show (i : Int) < (l.length : Int) by omega), if_pos (show 0 ≤ (i : Int) by omega), w64 (n := b.f0 + b.f1) (by omega) (by omega), w64 (n := (i : Int) + 1) (by omega) (by omega), w64 (n := b.f0 - e) (by omega) (by omega), show (i : Int) + 1 = ((i + 1 : Nat) : Int) by omega]
    show _ = some (acc ++ ((if e < b.f0 then [⟨e, b.f0 - e⟩] else []) ++ free w (b.f0 + b.f1) (l.drop (i + 1))))
    by_cases c : b.f0 > e
    · rw [if_pos c, if_pos (by omega), if_pos (show e < b.f0 from c), spec_free l w hwf hw0 hw hn hok d (i + 1) (b.f0 + b.f1) _ k (by omega) (by omega) (by omega) (by omega) c4 (by rw [List.length_append]; simp; omega), List.append_assoc]
    · rw [if_neg c, if_pos (show (i : Int) < (l.length : Int) by omega), if_pos (show 0 ≤ (i : Int) by omega), if_neg (show ¬ e < b.f0 from c), spec_free l w hwf hw0 hw hn hok d (i + 1) (b.f0 + b.f1) _ k (by omega) (by omega) (by omega) (by omega) c4 (by omega), List.nil_append]

def freeOf (l : List BI) (w : Int) : List BI := if liveOk l w then free w 0 l else []
theorem ok_parts {l : List BI} {w : Int} (h : liveOk l w = true) : 0 ≤ w ∧ w ≤ 256 ∧ l.length ≤ 300 ∧ chain w 0 l = true := by
  unfold liveOk at h
  simp only [Bool.and_eq_true, decide_eq_true_eq] at h
  exact ⟨h.1.1, h.1.2.1, h.1.2.2, h.2⟩
theorem impl_free_eq (l : List BI) (w : Int) (hwf : ∀ b ∈ l, wfB b) (hn : l.length ≤ 1048576) (k : Nat) (hk : l.length + 1 < k) : impl_LiveFree.f k l w = some (freeOf l w) := by
  unfold impl_LiveFree.f freeOf
  rw [impl_areLive_eq l w hwf hn k hk, Option.bind_some]
  by_cases h : liveOk l w = true
  · obtain ⟨p1, p2, p3, p4⟩ := ok_parts h
    rw [if_pos h, if_pos h]
    have := impl_free l w p1 p2 p3 l.length 0 0 [] k (by omega) (by omega) (by omega) (by omega) (by simpa using p4) (by simp)
    simpa using this
  · rw [if_neg h, if_neg h]
theorem spec_free_eq (l : List BI) (w : Int) (hwf : ∀ b ∈ l, wfB b) (hn : l.length ≤ 1048576) (k : Nat) (hk : 4 * l.length + 20 < k) : spec_LiveFree.f k l w = some (freeOf l w) := by
  unfold spec_LiveFree.f freeOf
  by_cases h : liveOk l w = true
  · obtain ⟨p1, p2, p3, p4⟩ := ok_parts h
    rw [if_pos h]
    have := spec_free l w hwf p1 p2 p3 h l.length 0 0 [] k (by omega) (by omega) (by omega) (by omega) (by simpa using p4) (by simp)
    simpa using this
  · rw [if_neg h]
    obtain ⟨k, rfl⟩ : ∃ m, k = m + 3 := ⟨k - 3, by omega⟩
    simp only [spec_LiveFree.l0]
    rw [spec_liveOk l w hwf (by omega) _ (by omega), Option.bind_some, if_neg h]
    simp [spec_LiveFree.j1]
theorem freeOf_len (l : List BI) (w : Int) (hn : l.length ≤ 1048576) : (freeOf l w).length ≤ 1048577 := by
  unfold freeOf
  split
  · have := free_len w l 0; omega
  · simp

theorem FnExactLiveFree : laws_FnExactLiveFree.Pure := by
  intro l w ⟨hn, hl⟩ hw
  refine ⟨4 * l.length + 50, ?_⟩
  unfold laws_FnExactLiveFree.f
  rw [szBlockS_eq l _ hn (by omega) (by omega)]
  simp only [Option.bind_some]
  by_cases c : (1048576 : Int) < l.length
  · rw [if_pos c, if_pos (by omega)]
  · rw [if_neg c, if_neg (by omega)]
    have hwf : ∀ b ∈ l.map toB, wfB b := by
      intro b hb
      obtain ⟨x, hx, rfl⟩ := List.mem_map.1 hb
      exact ⟨wf_i64 (hl x hx).1, wf_i64 (hl x hx).2⟩
    have hlen : (l.map toB).length = l.length := List.length_map ..
    generalize hm : l.map toB = m at hwf hlen
    have hfl := freeOf_len m w (by omega)
    have hfl2 : (freeOf m w).length ≤ l.length + 1 := by
      unfold freeOf
      split
      · have := free_len w m 0; omega
      · simp
    have hT : ∀ k, l.length < k → laws_toBlockS.f k l = some m := fun k hk => by rw [toBlockS_eq l (by omega) k hk, hm]
    have e1 := hT (4 * l.length + 50) (by omega)
    have e2 := spec_free_eq m w hwf (by omega) (4 * l.length + 50) (by omega)
    have e3 := impl_free_eq m w hwf (by omega) (4 * l.length + 50) (by omega)
    have e4 := eqBlockS_self (freeOf m w) (by omega) (4 * l.length + 50) (by omega)
    have e5 := eqBlockS_self m (by omega) (4 * l.length + 50) (by omega)
    have e6 := markBlockS_eq m (by omega) (4 * l.length + 50) (by omega)
    have f1 := hT (4 * l.length + 49) (by omega)
    have f3 := impl_free_eq m w hwf (by omega) (4 * l.length + 49) (by omega)
    have f4 := eqBlockS_self (freeOf m w) (by omega) (4 * l.length + 49) (by omega)
    have f6 := markBlockS_eq (freeOf m w) (by omega) (4 * l.length + 49) (by omega)
    have f7 := heldBlockS_eq (freeOf m w).length (by omega) (4 * l.length + 49) (by omega)
    simp only [e1, e2, e3, e4, e5, e6, Option.bind_some, if_true, laws_FnExactLiveFree.j0, f1, f3, f4, f6, f7, Bool.not_true, Bool.false_eq_true, if_false]
    rw [if_neg (by omega), if_neg (by omega), if_neg (by omega)]

end Go.Proofs.Ytgccnoknhffhjaa.Pure
