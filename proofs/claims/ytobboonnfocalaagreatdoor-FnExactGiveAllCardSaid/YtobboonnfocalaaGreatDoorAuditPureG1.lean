/- What the audit of a heap comes to, the program's and the reference's. Conditions: none. -/
import Derived.Test.YtobboonnfocalaaGreatDoorSizePureG1
import Derived.Test.YtobboonnfocalaaGreatDoorIsHeapG1
import Derived.Test.YtobboonnfocalaaGreatDoorPG1x2
import Derived.Test.YtobboonnfocalaaGreatDoorPG1x3
import Derived.Test.YtobboonnfocalaaGreatDoorPG1x0
set_option linter.unusedVariables false
set_option linter.unusedSimpArgs false
namespace Go.Proofs.YtobboonnfocalaaGreatDoor.Aud
open Go.RowKit Go.Proofs.YtobboonnfocalaaGreatDoor.Base Go.Proofs.YtobboonnfocalaaGreatDoor.PG1 Go.Proofs.YtobboonnfocalaaGreatDoorW.PrintWords Go.Proofs.YtobboonnfocalaaGreatDoorW.PrintLast

abbrev BI := S55
def isW32 (x : Int) : Prop := 0 ≤ x ∧ x ≤ 4294967295
theorem rdW (l : List Int) (i : Nat) (h : i < l.length) : rd l (i : Int) = l[i] := by
  unfold rd
  simp [List.getD_eq_getElem?_getD, h]
theorem isCtlWord_eq (x : Int) (h : isW32 x) : isCtlWord x = (ctlRead x).2.2.2.2 := by
  have e := impl_ctlRead x h.1 h.2 2 (by omega)
  exact lastOf_some (r1 := (ctlRead x).1) (r2 := (ctlRead x).2.1) (r3 := (ctlRead x).2.2.1) (r4 := (ctlRead x).2.2.2.1) e
def memOk (l : List Int) : Bool := decide (l.length ≤ 16) && l.all fun x => (ctlRead x).2.2.2.2
theorem heapOk_eq (l : List Int) (hl : ∀ x ∈ l, isW32 x) : heapOk l = memOk l := by
  unfold heapOk memOk
  congr 1
  rw [Bool.eq_iff_iff, List.all_eq_true, List.all_eq_true]
  exact ⟨fun h x hx => by rw [← isCtlWord_eq x (hl x hx)]; exact h x hx, fun h x hx => by rw [isCtlWord_eq x (hl x hx)]; exact h x hx⟩
theorem spec_memOk (l : List Int) (hl : ∀ x ∈ l, isW32 x) (k : Nat) (hk : 100 < k) : spec_l07MemOk.f k l = some (memOk l) := by
  unfold spec_l07MemOk.f memOk
  by_cases c : l.length ≤ 16
  · rw [if_neg (by omega), decide_eq_true c, Bool.true_and]
    have key : ∀ (d i : Nat) (k : Nat), i + d = l.length → d + 60 < k → spec_l07MemOk.l0 k (i : Int) l = some ((l.drop i).all fun x => (ctlRead x).2.2.2.2) := by
      intro d
      induction d with
      | zero =>
        intro i k hd hk
        obtain ⟨k, rfl⟩ : ∃ m, k = m + 1 := ⟨k - 1, by omega⟩
        simp only [spec_l07MemOk.l0]
        rw [if_neg (by omega), List.drop_of_length_le (by omega)]
        rfl
      | succ d ih =>
        intro i k hd hk
        obtain ⟨k, rfl⟩ : ∃ m, k = m + 1 := ⟨k - 1, by omega⟩
        have hi : i < l.length := by omega
        have hw := hl l[i] (List.getElem_mem hi)
        simp only [spec_l07MemOk.l0]
        rw [if_pos (by omega), if_pos (by omega), rdW l i hi, spec_ctlRead _ hw.1 hw.2 k (by omega), Option.bind_some, w64 (by omega) (by omega), show (i : Int) + 1 = ((i + 1 : Nat) : Int) by omega, ih (i + 1) k (by omega) (by omega), List.drop_eq_getElem_cons hi, List.all_cons]
        cases (ctlRead l[i]).2.2.2.2
        · simp
        · simp
    have := key l.length 0 k (by omega) (by omega)
    simpa using this
  · rw [if_pos (by omega), decide_eq_false c]
    rfl

theorem memOk_len {l : List Int} (h : memOk l = true) : l.length ≤ 16 := by
  unfold memOk at h
  rw [Bool.and_eq_true, decide_eq_true_eq] at h
  exact h.1

theorem ctlOk_parts {a b c d : Int} (h : ctlOk a b c d = true) : (0 ≤ b ∧ b ≤ 4) ∧ (0 ≤ d ∧ d ≤ 16) ∧ (a ≠ 1 → c = 0) := by
  unfold ctlOk at h
  (repeat' split at h) <;> (simp only [decide_eq_true_eq, Bool.and_eq_true, Bool.false_eq_true] at h) <;> omega
theorem ctlRead_parts (x : Int) : (0 ≤ (ctlRead x).2.1 ∧ (ctlRead x).2.1 ≤ 4) ∧ (0 ≤ (ctlRead x).2.2.2.1 ∧ (ctlRead x).2.2.2.1 ≤ 16) ∧ ((ctlRead x).1 ≠ 1 → (ctlRead x).2.2.1 = 0) ∧ 0 ≤ (ctlRead x).2.2.1 ∧ (ctlRead x).2.2.1 < 65536 := by
  unfold ctlRead
  split
  · rename_i h
    have := ctlOk_parts h
    refine ⟨this.1, this.2.1, this.2.2, ?_⟩
    dsimp only
    omega
  · exact ⟨by decide, by decide, fun _ => rfl, by decide⟩
/-- The block of a page's place. -/
def blk (i : Nat) (c b : Int) : BI := ⟨16 * (i : Int) + b * sz c, sz c⟩
/-- What a word tells. -/
def blocks (i : Nat) (x : Int) : List BI := (bitList (ctlRead x).2.2.1.toNat).map (blk i (ctlRead x).2.1) ++ (if (ctlRead x).1 = 2 then [⟨16 * (i : Int), 16 * (ctlRead x).2.2.2.1⟩] else [])
def allFrom : Nat → List Int → List BI
  | _, [] => []
  | i, x :: r => blocks i x ++ allFrom (i + 1) r
theorem blocks_len (i : Nat) (x : Int) : (blocks i x).length ≤ 33 := by
  have := bitList_len (ctlRead x).2.2.1.toNat
  unfold blocks
  rw [List.length_append, List.length_map]
  split <;> simp <;> omega
theorem allFrom_len : ∀ (l : List Int) (i : Nat), (allFrom i l).length ≤ 33 * l.length
  | [], _ => by simp [allFrom]
  | x :: r, i => by
    have h1 := blocks_len i x
    have h2 := allFrom_len r (i + 1)
    rw [allFrom, List.length_append, List.length_cons]
    omega
theorem rdX (l : List Int) (i : Nat) (h : i < l.length) : rd l (i : Int) = l[i] := rdW l i h
theorem blk_sz (i : Nat) (hi : i < 16) (c b : Int) (hc : 0 ≤ c ∧ c ≤ 4) (hb : 0 ≤ b ∧ b < 32) : 0 ≤ b * sz c ∧ b * sz c ≤ 512 := by
  have hs := sz_pos c
  rcases class_cases hc with rfl | rfl | rfl | rfl | rfl <;> simp only [sz] <;> simp <;> omega
theorem impl_page (l : List Int) (i : Nat) (hi : i < 16) (hn : l.length ≤ 16) (bits : List Int) (s c m r : Int) (hc : 0 ≤ c ∧ c ≤ 4) (hb : ∀ b ∈ bits, 0 ≤ b ∧ b < 32) (hl : bits.length ≤ 32) : ∀ (d j : Nat) (acc : List BI) (k : Nat), j + d = bits.length → acc.length ≤ 33 * i + j →
    impl_audit.l1 (k + d + 1) acc (i : Int) l (l.length : Int) (i : Int) bits (bits.length : Int) (j : Int) s c m r = impl_audit.l0 k (acc ++ (bits.drop j).map (blk i c)) l (l.length : Int) ((i + 1 : Nat) : Int)
  | 0, j, acc, k, hd, ha => by
    rw [impl_audit.l1, if_neg (by omega), List.drop_of_length_le (by omega), w64 (by omega) (by omega), show (i : Int) + 1 = ((i + 1 : Nat) : Int) by omega, List.map_nil, List.append_nil]
  | d + 1, j, acc, k, hd, ha => by
    have hj : j < bits.length := by omega
    have hbj := hb bits[j] (List.getElem_mem hj)
    have hsz := blk_sz i hi c bits[j] hc hbj
    have hal : acc.length < 8796093022208 := by omega
    rw [impl_audit.l1, if_pos (by omega), if_pos (by omega), if_pos (by omega), if_pos hc.1, impl_size c hc, Option.bind_some, if_pos hal, rdX bits j hj, shl_sz hc (by omega), w64 (n := (i : Int) * 16) (by omega) (by omega), w64 (by omega) (by omega), w64 (n := (j : Int) + 1) (by omega) (by omega), show (j : Int) + 1 = ((j + 1 : Nat) : Int) by omega, show k + (d + 1) = k + d + 1 by omega, impl_page l i hi hn bits s c m r hc hb hl d (j + 1) _ k (by omega) (by simp; omega), List.drop_eq_getElem_cons hj, List.map_cons, List.append_assoc, List.singleton_append]
    unfold blk
    rw [Int.mul_comm (i : Int) 16]
theorem impl_words (l : List Int) (hw : ∀ x ∈ l, isW32 x) (hn : l.length ≤ 16) : ∀ (d i : Nat) (acc : List BI) (k : Nat), i + d = l.length → 50 * d + 60 < k → acc.length ≤ 33 * i → impl_audit.l0 k acc l (l.length : Int) (i : Int) = some (acc ++ allFrom i (l.drop i))
  | 0, i, acc, k, hd, hk, ha => by
    obtain ⟨k, rfl⟩ : ∃ m, k = m + 1 := ⟨k - 1, by omega⟩
    rw [impl_audit.l0, if_neg (by omega), List.drop_of_length_le (by omega), allFrom, List.append_nil]
  | d + 1, i, acc, k, hd, hk, ha => by
    have hi : i < l.length := by omega
    have hx := hw l[i] (List.getElem_mem hi)
    obtain ⟨p1, p2, p3, p4⟩ := ctlRead_parts l[i]
    have hbl := blocks_len i l[i]
    have hal : acc.length < 8796093022208 := by omega
    have hlen := bitList_len (ctlRead l[i]).2.2.1.toNat
    obtain ⟨k, rfl⟩ : ∃ m, k = m + (bitList (ctlRead l[i]).2.2.1.toNat).length + 1 + 1 := ⟨k - (bitList (ctlRead l[i]).2.2.1.toNat).length - 2, by omega⟩
    rw [impl_audit.l0, if_pos (by omega), if_pos (by omega), if_pos (by omega), rdX l i hi, impl_ctlRead _ hx.1 hx.2 _ (by omega), Option.bind_some, List.drop_eq_getElem_cons hi, allFrom, ← List.append_assoc]
    have hm : ((ctlRead l[i]).2.2.1.toNat : Int) = (ctlRead l[i]).2.2.1 := Int.toNat_of_nonneg p4.1
    by_cases c1 : (ctlRead l[i]).1 = 1
    · have hb := impl_bitList (ctlRead l[i]).2.2.1.toNat (by omega) (k + (bitList (ctlRead l[i]).2.2.1.toNat).length + 1) (by omega)
      rw [hm] at hb
      have e : blocks i l[i] = (bitList (ctlRead l[i]).2.2.1.toNat).map (blk i (ctlRead l[i]).2.1) := by unfold blocks; rw [if_neg (by omega), List.append_nil]
      rw [if_pos c1, hb, Option.bind_some, show ((0 : Int)) = ((0 : Nat) : Int) from rfl, impl_page l i (by omega) hn _ _ _ _ _ p1 (fun b hb => bitList_range hb) hlen _ 0 acc k (by omega) (by omega), List.drop_zero, ← e]
      exact impl_words l hw hn d (i + 1) _ k (by omega) (by omega) (by rw [List.length_append]; omega)
    · have hz : (ctlRead l[i]).2.2.1.toNat = 0 := by rw [p3 c1]; rfl
      rw [if_neg c1, w64 (n := (i : Int) + 1) (by omega) (by omega), show (i : Int) + 1 = ((i + 1 : Nat) : Int) by omega]
      by_cases c2 : (ctlRead l[i]).1 = 2
      · have e : blocks i l[i] = [⟨16 * (i : Int), 16 * (ctlRead l[i]).2.2.2.1⟩] := by unfold blocks; rw [hz, bitList_zero, if_pos c2]; rfl
        rw [if_pos c2, if_pos hal, w64 (n := (i : Int) * 16) (by omega) (by omega), w64 (n := (ctlRead l[i]).2.2.2.1 * 16) (by omega) (by omega), Int.mul_comm (i : Int) 16, Int.mul_comm (ctlRead l[i]).2.2.2.1 16, ← e]
        exact impl_words l hw hn d (i + 1) _ _ (by omega) (by omega) (by rw [List.length_append]; omega)
      · have e : blocks i l[i] = [] := by unfold blocks; rw [hz, bitList_zero, if_neg c2]; rfl
        rw [if_neg c2, e, List.append_nil]
        exact impl_words l hw hn d (i + 1) _ _ (by omega) (by omega) (by omega)
theorem spec_page (l : List Int) (i : Nat) (hi : i < 16) (hn : l.length ≤ 16) (bits : List Int) (s c m r : Int) (hc : 0 ≤ c ∧ c ≤ 4) (hr : 0 ≤ r ∧ r ≤ 16) (hb : ∀ b ∈ bits, 0 ≤ b ∧ b < 32) (hl : bits.length ≤ 32) : ∀ (d j : Nat) (acc : List BI) (k : Nat), j + d = bits.length → 20 < k → acc.length ≤ 33 * i + j →
    spec_Audit.l1 (k + d + 1) acc (i : Int) bits (j : Int) l s c m r = spec_Audit.l0 k (acc ++ (bits.drop j).map (blk i c) ++ (if s = 2 then [⟨16 * (i : Int), 16 * r⟩] else [])) ((i + 1 : Nat) : Int) l
  | 0, j, acc, k, hd, hk, ha => by
    have hal : acc.length < 8796093022208 := by omega
    rw [spec_Audit.l1, if_neg (by omega), List.drop_of_length_le (by omega), w64 (n := (i : Int) + 1) (by omega) (by omega), show (i : Int) + 1 = ((i + 1 : Nat) : Int) by omega, List.map_nil, List.append_nil, w64 (n := 16 * (i : Int)) (by omega) (by omega), w64 (n := 16 * r) (by omega) (by omega)]
    by_cases c2 : s = 2
    · rw [if_pos c2, if_pos c2, if_pos hal]
    · rw [if_neg c2, if_neg c2, List.append_nil]
  | d + 1, j, acc, k, hd, hk, ha => by
    have hj : j < bits.length := by omega
    have hbj := hb bits[j] (List.getElem_mem hj)
    have hsz := blk_sz i hi c bits[j] hc hbj
    have hal : acc.length < 8796093022208 := by omega
    rw [spec_Audit.l1, if_pos (by omega), if_pos (by omega), spec_size c hc _ (by omega), Option.bind_some, Option.bind_some, if_pos hal, rdX bits j hj, w64 (n := 16 * (i : Int)) (by omega) (by omega), w64 (n := bits[j] * sz c) (by omega) (by omega), w64 (by omega) (by omega), w64 (n := (j : Int) + 1) (by omega) (by omega), show (j : Int) + 1 = ((j + 1 : Nat) : Int) by omega, show k + (d + 1) = k + d + 1 by omega, spec_page l i hi hn bits s c m r hc hr hb hl d (j + 1) _ k (by omega) hk (by simp; omega), List.drop_eq_getElem_cons hj, List.map_cons, List.append_assoc acc, List.singleton_append]
    rfl
theorem spec_words (l : List Int) (hw : ∀ x ∈ l, isW32 x) (hn : l.length ≤ 16) : ∀ (d i : Nat) (acc : List BI) (k : Nat), i + d = l.length → 50 * d + 120 < k → acc.length ≤ 33 * i → spec_Audit.l0 k acc (i : Int) l = some (acc ++ allFrom i (l.drop i), true)
  | 0, i, acc, k, hd, hk, ha => by
    obtain ⟨k, rfl⟩ : ∃ m, k = m + 1 := ⟨k - 1, by omega⟩
    rw [spec_Audit.l0, if_neg (by omega), List.drop_of_length_le (by omega), allFrom, List.append_nil]
  | d + 1, i, acc, k, hd, hk, ha => by
    have hi : i < l.length := by omega
    have hx := hw l[i] (List.getElem_mem hi)
    obtain ⟨p1, p2, p3, p4⟩ := ctlRead_parts l[i]
    have hbl := blocks_len i l[i]
    have hlen := bitList_len (ctlRead l[i]).2.2.1.toNat
    obtain ⟨k, rfl⟩ : ∃ m, k = m + (bitList (ctlRead l[i]).2.2.1.toNat).length + 1 + 1 := ⟨k - (bitList (ctlRead l[i]).2.2.1.toNat).length - 2, by omega⟩
    have hm : ((ctlRead l[i]).2.2.1.toNat : Int) = (ctlRead l[i]).2.2.1 := Int.toNat_of_nonneg p4.1
    have hb := spec_bitList (ctlRead l[i]).2.2.1.toNat (by omega) (k + (bitList (ctlRead l[i]).2.2.1.toNat).length + 1) (by omega)
    rw [hm] at hb
    rw [spec_Audit.l0, if_pos (by omega), if_pos (by omega), rdX l i hi, spec_ctlRead _ hx.1 hx.2 _ (by omega), Option.bind_some, hb, Option.bind_some, show ((0 : Int)) = ((0 : Nat) : Int) from rfl, spec_page l i (by omega) hn _ _ _ _ _ p1 p2 (fun b hb => bitList_range hb) hlen _ 0 acc k (by omega) (by omega) (by omega), List.drop_zero, List.drop_eq_getElem_cons hi, allFrom, List.append_assoc acc]
    rw [← List.append_assoc acc (blocks i l[i])]
    exact spec_words l hw hn d (i + 1) _ k (by omega) (by omega) (by have := hbl; unfold blocks at this; rw [List.length_append]; omega)
def auditOf (l : List Int) : List BI × Bool := if memOk l = true then (allFrom 0 l, true) else ([], false)
theorem impl_audit_eq (l : List Int) (hl : ∀ x ∈ l, isW32 x) (h : memOk l = true) (k : Nat) (hk : 1000 < k) : impl_audit.f k l = some (allFrom 0 l) := by
  have hn := memOk_len h
  unfold impl_audit.f
  have := impl_words l hl hn l.length 0 [] k (by omega) (by omega) (by simp)
  rw [List.drop_zero, List.nil_append] at this
  exact this
theorem spec_audit_eq (l : List Int) (hl : ∀ x ∈ l, isW32 x) (k : Nat) (hk : 1000 < k) : spec_Audit.f k l = some (auditOf l) := by
  unfold spec_Audit.f auditOf
  rw [spec_memOk l hl k (by omega), Option.bind_some]
  by_cases h : memOk l = true
  · have hn := memOk_len h
    rw [if_pos h, if_pos h]
    have := spec_words l hl hn l.length 0 [] k (by omega) (by omega) (by simp)
    rw [List.drop_zero, List.nil_append] at this
    exact this
  · rw [if_neg h, if_neg h]
theorem auditOf_len (l : List Int) : (auditOf l).1.length ≤ 528 := by
  unfold auditOf
  split
  · rename_i h
    have h1 := memOk_len h
    have h2 := allFrom_len l 0
    dsimp only
    omega
  · simp

end Go.Proofs.YtobboonnfocalaaGreatDoor.Aud
