/- The program's AuditSum returns what the reference's AuditSum returns, for every memory. Conditions: none. -/
import Derived.Test.YtgccnoknhffhjaaCtlPure
import Derived.Test.YtgccnoknhffhjaaIsHeap
import Derived.Test.YtgccnoknhffhjaaPA1x17
import Derived.Test.YtgccnoknhffhjaaPA1x18
set_option linter.unusedVariables false
set_option linter.unusedSimpArgs false
namespace Go.Proofs.Ytgccnoknhffhjaa.Pure
open Go.RowKit Go.Proofs.Ytgccnoknhffhjaa.Base Go.Proofs.Ytgccnoknhffhjaa.PA1 Go.Proofs.YtgccnoknhffhjaaW.PrintWords Go.Proofs.YtgccnoknhffhjaaW.PrintLast

def isW (x : Int) : Prop := 0 ≤ x ∧ x ≤ 4294967295
theorem rdW (l : List Int) (i : Nat) (h : i < l.length) : rd l (i : Int) = l[i] := by
  unfold rd
  simp [List.getD_eq_getElem?_getD, h]
theorem isCtlWord_eq (x : Int) (h : isW x) : isCtlWord x = (ctlRead x).2.2.2.2 := by
  have e := impl_ctlRead x h.1 h.2 2 (by omega)
  exact lastOf_some (r1 := (ctlRead x).1) (r2 := (ctlRead x).2.1) (r3 := (ctlRead x).2.2.1) (r4 := (ctlRead x).2.2.2.1) e
def memOk (l : List Int) : Bool := decide (l.length ≤ 16) && l.all fun x => (ctlRead x).2.2.2.2
theorem heapOk_eq (l : List Int) (hl : ∀ x ∈ l, isW x) : heapOk l = memOk l := by
  unfold heapOk memOk
  congr 1
  rw [Bool.eq_iff_iff, List.all_eq_true, List.all_eq_true]
  exact ⟨fun h x hx => by rw [← isCtlWord_eq x (hl x hx)]; exact h x hx, fun h x hx => by rw [isCtlWord_eq x (hl x hx)]; exact h x hx⟩
theorem spec_memOk (l : List Int) (hl : ∀ x ∈ l, isW x) (k : Nat) (hk : 100 < k) : spec_l07MemOk.f k l = some (memOk l) := by
  unfold spec_l07MemOk.f memOk
  by_cases c : l.length ≤ 16
  · rw [if_neg (by omega), decide_eq_true c, Bool.true_and]
    have key : ∀ (d i : Nat) (k : Nat), i + d = l.length → d + 60 < k → spec_l07MemOk.l0 k (i : Int) l = some ((l.drop i).all fun x => (ctlRead x).2.2.2.2) := by
      intro d
      induction d with
      | zero =>
        intro i k hd hk
        obtain ⟨k, rfl⟩ : ∃ m, k = m + 1 := ⟨k - 1, by omega⟩
        simp only [spec_l07MemOk.l0]
        rw [if_neg (by omega), List.drop_of_length_le (by omega)]
        rfl
      | succ d ih =>
        intro i k hd hk
        obtain ⟨k, rfl⟩ : ∃ m, k = m + 1 := ⟨k - 1, by omega⟩
        have hi : i < l.length := by omega
        have hw := hl l[i] (List.getElem_mem hi)
        simp only [spec_l07MemOk.l0]
        rw [if_pos (by omega), if_pos (by omega), rdW l i hi, spec_ctlRead _ hw.1 hw.2 k (by omega), Option.bind_some, w64 (by omega) (by omega), show (i : Int) + 1 = ((i + 1 : Nat) : Int) by omega, ih (i + 1) k (by omega) (by omega), List.drop_eq_getElem_cons hi, List.all_cons]
        cases (ctlRead l[i]).2.2.2.2
        · simp
        · simp
    have := key l.length 0 k (by omega) (by omega)
    simpa using this
  · rw [if_pos (by omega), decide_eq_false c]
    rfl

def cnt (s : Int) (l : List Int) : Int := ((l.filter fun x => (ctlRead x).1 == s).length : Nat)
theorem cnt_cons (s x : Int) (l : List Int) : cnt s (x :: l) = (if (ctlRead x).1 = s then 1 else 0) + cnt s l := by
  unfold cnt
  by_cases h : (ctlRead x).1 = s
  · rw [if_pos h, List.filter_cons_of_pos (by simpa using h), List.length_cons]; omega
  · rw [if_neg h, List.filter_cons_of_neg (by simpa using h)]; omega
theorem cnt_nonneg (s : Int) (l : List Int) : 0 ≤ cnt s l := by unfold cnt; omega
theorem cnt_len (s : Int) (l : List Int) : cnt s l ≤ l.length := by
  unfold cnt
  have := List.length_filter_le (fun x => (ctlRead x).1 == s) l
  omega
theorem impl_sum (l : List Int) (hl : ∀ x ∈ l, isW x) (hn : l.length ≤ 16) : ∀ (d i : Nat) (a b c : Int) (k : Nat), i + d = l.length → d + 10 < k → 0 ≤ a → a ≤ i → 0 ≤ b → b ≤ i → 0 ≤ c → c ≤ i →
    impl_AuditSum.l0 k a b c l (l.length : Int) (i : Int) = some (a + cnt 0 (l.drop i), b + cnt 1 (l.drop i), c + (cnt 2 (l.drop i) + cnt 3 (l.drop i)))
  | 0, i, a, b, c, k, hd, hk, ha, ha', hb, hb', hc, hc' => by
    obtain ⟨k, rfl⟩ : ∃ m, k = m + 1 := ⟨k - 1, by omega⟩
    simp only [impl_AuditSum.l0]
    rw [if_neg (by omega), List.drop_of_length_le (by omega)]
    simp [cnt]
  | d + 1, i, a, b, c, k, hd, hk, ha, ha', hb, hb', hc, hc' => by
    obtain ⟨k, rfl⟩ : ∃ m, k = m + 1 := ⟨k - 1, by omega⟩
    have hi : i < l.length := by omega
    have hw := hl l[i] (List.getElem_mem hi)
    simp only [impl_AuditSum.l0]
    rw [if_pos (by omega), if_pos (by omega), if_pos (by omega), rdW l i hi, impl_ctlRead _ hw.1 hw.2 k (by omega), Option.bind_some, w64 (n := (i : Int) + 1) (by omega) (by omega), show (i : Int) + 1 = ((i + 1 : Nat) : Int) by omega, w64 (n := a + 1) (by omega) (by omega), w64 (n := b + 1) (by omega) (by omega), w64 (n := c + 1) (by omega) (by omega), List.drop_eq_getElem_cons hi]
    simp only [cnt_cons]
    rcases ctlRead_state l[i] with h | h | h | h <;> rw [h]
    · rw [if_pos rfl, impl_sum l hl hn d (i + 1) (a + 1) b c k (by omega) (by omega) (by omega) (by omega) (by omega) (by omega) (by omega) (by omega)]
      simp; omega
    · rw [if_neg (by omega), if_pos rfl, impl_sum l hl hn d (i + 1) a (b + 1) c k (by omega) (by omega) (by omega) (by omega) (by omega) (by omega) (by omega) (by omega)]
      simp; omega
    · rw [if_neg (by omega), if_neg (by omega), impl_sum l hl hn d (i + 1) a b (c + 1) k (by omega) (by omega) (by omega) (by omega) (by omega) (by omega) (by omega) (by omega)]
      simp; omega
    · rw [if_neg (by omega), if_neg (by omega), impl_sum l hl hn d (i + 1) a b (c + 1) k (by omega) (by omega) (by omega) (by omega) (by omega) (by omega) (by omega) (by omega)]
      simp; omega
theorem spec_sum (l : List Int) (hl : ∀ x ∈ l, isW x) (hn : l.length ≤ 16) : ∀ (d i : Nat) (a b c e : Int) (k : Nat), i + d = l.length → d + 60 < k → 0 ≤ a → a ≤ i → 0 ≤ b → b ≤ i → 0 ≤ c → c ≤ i → 0 ≤ e → e ≤ i →
    spec_AuditSum.l0 k [a, b, c, e] (i : Int) l = some (a + cnt 0 (l.drop i), b + cnt 1 (l.drop i), (c + cnt 2 (l.drop i)) + (e + cnt 3 (l.drop i)))
  | 0, i, a, b, c, e, k, hd, hk, ha, ha', hb, hb', hc, hc', he, he' => by
    obtain ⟨k, rfl⟩ : ∃ m, k = m + 1 := ⟨k - 1, by omega⟩
    simp only [spec_AuditSum.l0]
    rw [if_neg (by omega), List.drop_of_length_le (by omega)]
    simp [cnt, rd]
    rw [w64 (by omega) (by omega)]
  | d + 1, i, a, b, c, e, k, hd, hk, ha, ha', hb, hb', hc, hc', he, he' => by
    obtain ⟨k, rfl⟩ : ∃ m, k = m + 1 := ⟨k - 1, by omega⟩
    have hi : i < l.length := by omega
    have hw := hl l[i] (List.getElem_mem hi)
    simp only [spec_AuditSum.l0]
    rw [if_pos (by omega), if_pos (by omega), rdW l i hi, spec_ctlRead _ hw.1 hw.2 k (by omega), Option.bind_some, w64 (n := (i : Int) + 1) (by omega) (by omega), show (i : Int) + 1 = ((i + 1 : Nat) : Int) by omega, List.drop_eq_getElem_cons hi]
    simp only [cnt_cons]
    rcases ctlRead_state l[i] with h | h | h | h <;> rw [h]
    · rw [if_pos (by omega), if_pos (by simp)]
      show spec_AuditSum.l0 k [wrap64 (a + 1), b, c, e] _ l = _
      rw [w64 (by omega) (by omega), spec_sum l hl hn d (i + 1) (a + 1) b c e k (by omega) (by omega) (by omega) (by omega) (by omega) (by omega) (by omega) (by omega) (by omega) (by omega)]
      simp; omega
    · rw [if_pos (by omega), if_pos (by simp)]
      show spec_AuditSum.l0 k [a, wrap64 (b + 1), c, e] _ l = _
      rw [w64 (by omega) (by omega), spec_sum l hl hn d (i + 1) a (b + 1) c e k (by omega) (by omega) (by omega) (by omega) (by omega) (by omega) (by omega) (by omega) (by omega) (by omega)]
      simp; omega
    · rw [if_pos (by omega), if_pos (by simp)]
      show spec_AuditSum.l0 k [a, b, wrap64 (c + 1), e] _ l = _
      rw [w64 (by omega) (by omega), spec_sum l hl hn d (i + 1) a b (c + 1) e k (by omega) (by omega) (by omega) (by omega) (by omega) (by omega) (by omega) (by omega) (by omega) (by omega)]
      simp; omega
    · rw [if_pos (by omega), if_pos (by simp)]
      show spec_AuditSum.l0 k [a, b, c, wrap64 (e + 1)] _ l = _
      rw [w64 (by omega) (by omega), spec_sum l hl hn d (i + 1) a b c (e + 1) k (by omega) (by omega) (by omega) (by omega) (by omega) (by omega) (by omega) (by omega) (by omega) (by omega)]
      simp; omega
def sumOf (l : List Int) : Int × Int × Int := if memOk l = true then (cnt 0 l, cnt 1 l, cnt 2 l + cnt 3 l) else (-1, -1, -1)
theorem memOk_len {l : List Int} (h : memOk l = true) : l.length ≤ 16 := by
  unfold memOk at h
  rw [Bool.and_eq_true, decide_eq_true_eq] at h
  exact h.1
theorem impl_auditSum (l : List Int) (hl : ∀ x ∈ l, isW x) (k : Nat) (hk : 100 < k) : impl_AuditSum.f k l = some (sumOf l) := by
  unfold impl_AuditSum.f impl_isHeap.f sumOf
  rw [heapOk_eq l hl, Option.bind_some]
  by_cases h : memOk l = true
  · have hn := memOk_len h
    rw [if_pos h, if_pos h]
    have := impl_sum l hl hn l.length 0 0 0 0 k (by omega) (by omega) (by omega) (by omega) (by omega) (by omega) (by omega) (by omega)
    simpa using this
  · rw [if_neg h, if_neg h]
theorem spec_auditSum (l : List Int) (hl : ∀ x ∈ l, isW x) (k : Nat) (hk : 100 < k) : spec_AuditSum.f k l = some (sumOf l) := by
  unfold spec_AuditSum.f sumOf
  rw [spec_memOk l hl k hk, Option.bind_some]
  by_cases h : memOk l = true
  · have hn := memOk_len h
    rw [if_pos h, if_pos h]
    have := spec_sum l hl hn l.length 0 0 0 0 0 k (by omega) (by omega) (by omega) (by omega) (by omega) (by omega) (by omega) (by omega) (by omega) (by omega)
    simpa using this
  · rw [if_neg h, if_neg h]

theorem szU_eq (l : List Int) (n : Int) (hn : l.length ≤ 9223372036854775807) (h0 : 0 ≤ n) (h1 : n ≤ 1048576) : laws_szUint32S.f l n = some (if n < l.length then -1 else n - l.length) := by
  unfold laws_szUint32S.f
  rw [w64 (by omega) (by omega)]
  by_cases c : n < (l.length : Int)
  · rw [if_pos (by omega), if_pos c]
  · rw [if_neg (by omega), if_neg c]
theorem toU_eq (l : List Int) (hn : l.length ≤ 1048576) (k : Nat) (hk : l.length < k) : laws_toUint32S.f k l = some l := by
  unfold laws_toUint32S.f
  rw [if_pos (by omega), if_pos (by omega)]
  have h := fill_loop l id (fun k ys i => laws_toUint32S.l0 k l ys i) (by omega) (fun k ys => by simp only [laws_toUint32S.l0]; rw [if_neg (by omega)])
    (fun k ys i hi hl => by
      simp only [laws_toUint32S.l0, Option.bind_some]
      rw [if_pos (by omega), if_pos (by omega), if_pos (by omega), rdW l i hi, w64 (by omega) (by omega)]
      rfl)
    l.length 0 (List.replicate l.length 0) k (by simp) (by omega) hk
  simpa using h
theorem eqU_self (l : List Int) (hn : l.length ≤ 2000000) (k : Nat) (hk : l.length < k) : laws_eqUint32S.f k l l = some true := by
  unfold laws_eqUint32S.f
  rw [if_pos rfl]
  obtain ⟨b, h1, h2⟩ := all_loop l.length (fun _ => true) (fun k i => laws_eqUint32S.l0 k l l i) (fun k => by simp only [laws_eqUint32S.l0]; rw [if_neg (by omega)])
    (fun k i hi => by
      simp only [laws_eqUint32S.l0]
      rw [if_pos (by omega), if_pos (by omega), if_pos (by omega), w64 (by omega) (by omega)]
      simp) l.length 0 k (by omega) hk
  rw [show b = true from h2.2 (fun _ _ _ => rfl)] at h1
  exact h1

theorem FnExactAuditSum : laws_FnExactAuditSum.Pure := by
  intro l ⟨hn, hl⟩
  have hW : ∀ x ∈ l, isW x := fun x hx => wf_u32 (hl x hx)
  refine ⟨l.length + 200, ?_⟩
  unfold laws_FnExactAuditSum.f laws_szMem.f
  rw [szU_eq l _ hn (by omega) (by omega)]
  simp only [Option.bind_some]
  by_cases c : (1048576 : Int) < l.length
  · rw [if_pos c]; simp
  · rw [if_neg c, if_neg (by omega)]
    have hT : ∀ k, l.length < k → laws_toMem.f k l = some l := fun k hk => by unfold laws_toMem.f; rw [toU_eq l (by omega) k hk]; rfl
    have hE : ∀ k, l.length < k → laws_eqMem.f k l l = some true := fun k hk => by unfold laws_eqMem.f; rw [eqU_self l (by omega) k hk]; rfl
    simp only [Option.bind_some, hT (l.length + 200) (by omega), spec_auditSum l hW (l.length + 200) (by omega), impl_auditSum l hW (l.length + 200) (by omega), if_true, bne_self_eq_false, laws_FnExactAuditSum.j0, hT (l.length + 199) (by omega), hE (l.length + 199) (by omega), Bool.false_eq_true, if_false]
    rw [if_neg (by omega)]

end Go.Proofs.Ytgccnoknhffhjaa.Pure
