/- A draw of a number below n comes to one, and the reader of draws stays within bounds. Conditions: none. -/
import Derived.Test.YtobboonnfocalaaBase
import Derived.Test.YtobboonnfocalaaPB1x8
set_option linter.unusedVariables false
set_option linter.unusedSimpArgs false
namespace Go.Proofs.Ytobboonnfocalaa.Base
open Go.RowKit Go.Proofs.Ytobboonnfocalaa.PB1 Go.Proofs.YtobboonnfocalaaW.PrintWords Go.Proofs.YtobboonnfocalaaW.PrintLast Go.Proofs.YtobboonnfocalaaW.PrintMore

def Bytes (l : List Int) : Prop := l.length ≤ 1048576 ∧ ∀ x ∈ l, 0 ≤ x ∧ x ≤ 255
/-- The reader stands within bounds: at most B draws so far. -/
def Cur (B : Int) (a s : Int) : Prop := 0 ≤ a ∧ a ≤ B ∧ 0 ≤ s ∧ s ≤ 70000
theorem Cur.mono {B B' a s : Int} (h : Cur B a s) (hB : B ≤ B') : Cur B' a s := ⟨h.1, by have := h.2.1; omega, h.2.2⟩

theorem pick_ok {l : List Int} (hl : Bytes l) {B a s : Int} (h : Cur B a s) (hB : B ≤ 4000000000000000000) (n : Int) (hn : n ≤ 4294967296) :
    ∃ r a' s', spec_l01Cur_pick.f l a s n = some (r, a', s') ∧ Cur (B + 1) a' s' ∧ 0 ≤ r ∧ (2 ≤ n → r < n) ∧ (n < 2 → r = 0) := by
  obtain ⟨hlen, hby⟩ := hl
  obtain ⟨h0, h1, h2, h3⟩ := h
  unfold spec_l01Cur_pick.f
  by_cases c1 : n < 2
  · rw [if_pos c1]; exact ⟨0, a, s, rfl, ⟨h0, by omega, h2, h3⟩, by omega, fun h => by omega, fun _ => rfl⟩
  rw [if_neg c1]
  have tm : ∀ x : Int, 0 ≤ x → 0 ≤ Int.tmod x n ∧ Int.tmod x n < n := fun x hx => by
    rw [Int.tmod_eq_emod_of_nonneg hx]
    exact ⟨Int.emod_nonneg _ (by omega), Int.emod_lt_of_pos _ (by omega)⟩
  by_cases c2 : a < (l.length : Int)
  · rw [if_pos c2, if_pos h0, if_neg (by omega)]
    have hr := hby _ (rd_mem h0 c2)
    rw [w64 (n := a + 1) (by omega) (by omega), w64 (n := rd l a) (by omega) (by omega)]
    exact ⟨_, _, _, rfl, ⟨by omega, by omega, h2, h3⟩, (tm _ hr.1).1, fun _ => (tm _ hr.1).2, fun h => absurd h c1⟩
  rw [if_neg c2]
  have e1 : wrap64 (s * 1103) = s * 1103 := w64 (by omega) (by omega)
  have e2 : wrap64 (wrap64 (s * 1103) + 12345) = s * 1103 + 12345 := by rw [e1]; exact w64 (by omega) (by omega)
  have e3 : Int.tmod (wrap64 (wrap64 (s * 1103) + 12345)) 65521 = (s * 1103 + 12345) % 65521 := by rw [e2, Int.tmod_eq_emod_of_nonneg (by omega)]
  rw [e3]
  have hs0 : 0 ≤ (s * 1103 + 12345) % 65521 := Int.emod_nonneg _ (by omega)
  have hs1 : (s * 1103 + 12345) % 65521 < 65521 := Int.emod_lt_of_pos _ (by omega)
  generalize (s * 1103 + 12345) % 65521 = q at hs0 hs1 ⊢
  by_cases c3 : (l.length : Int) > 0
  · have ea : Int.tmod a (l.length : Int) = a % (l.length : Int) := Int.tmod_eq_emod_of_nonneg h0
    have hm0 : 0 ≤ a % (l.length : Int) := Int.emod_nonneg _ (by omega)
    have hm1 : a % (l.length : Int) < l.length := Int.emod_lt_of_pos _ c3
    rw [if_pos c3, if_neg (by omega), ea, if_pos hm0, if_pos hm1, if_neg (by omega)]
    have hr := hby _ (rd_mem hm0 hm1)
    have ed : Int.tdiv q 7 = q / 7 := Int.tdiv_eq_ediv_of_nonneg hs0
    rw [ed, w64 (n := q / 7) (by omega) (by omega), w64 (n := rd l (a % (l.length : Int))) (by omega) (by omega), w64 (n := a + 1) (by omega) (by omega), w64 (by omega) (by omega)]
    have hx : 0 ≤ q / 7 + rd l (a % (l.length : Int)) := by omega
    exact ⟨_, _, _, rfl, ⟨by omega, by omega, hs0, by omega⟩, (tm _ hx).1, fun _ => (tm _ hx).2, fun h => absurd h c1⟩
  · rw [if_neg c3, if_neg (by omega), w64 (n := a + 1) (by omega) (by omega)]
    exact ⟨_, _, _, rfl, ⟨by omega, by omega, hs0, by omega⟩, by simp, fun _ => by simp; omega, fun h => absurd h c1⟩

theorem raw_ok {l : List Int} (hl : Bytes l) {B a s : Int} (h : Cur B a s) (hB : B ≤ 3000000000000000000) :
    ∃ r a' s', spec_l01Cur_raw.f l a s = some (r, a', s') ∧ Cur (B + 2) a' s' ∧ -9223372036854775808 ≤ r ∧ r ≤ 9223372036854775807 := by
  unfold spec_l01Cur_raw.f
  obtain ⟨r1, a1, s1, e1, k1, g1, g2, _⟩ := pick_ok hl h (by omega) 8 (by omega)
  rw [e1]
  simp only [Option.bind_some]
  by_cases c : r1 = 0
  · rw [if_pos c]
    obtain ⟨r2, a2, s2, e2, k2, g3, g4, _⟩ := pick_ok hl k1 (by omega) 256 (by omega)
    rw [e2]
    simp only [Option.bind_some]
    have := g4 (by omega)
    exact ⟨_, _, _, rfl, k2.mono (by omega), by rw [w64 (by omega) (by omega)]; omega, by rw [w64 (by omega) (by omega)]; omega⟩
  rw [if_neg c]
  by_cases c2 : r1 = 1
  · rw [if_pos c2]
    obtain ⟨r2, a2, s2, e2, k2, g3, g4, _⟩ := pick_ok hl k1 (by omega) 8 (by omega)
    rw [e2]
    simp only [Option.bind_some]
    have g4 := g4 (by omega)
    rw [if_pos g3, if_pos (by simpa using g4)]
    refine ⟨_, _, _, rfl, k2.mono (by omega), ?_⟩
    have : rd [9223372036854775807, -9223372036854775808, 4611686018427387904, 4294967295, 4294967296, -1000, 1000, 64] r2 ∈ [9223372036854775807, -9223372036854775808, 4611686018427387904, 4294967295, 4294967296, -1000, 1000, (64 : Int)] := rd_mem g3 (by simpa using g4)
    generalize rd [9223372036854775807, -9223372036854775808, 4611686018427387904, 4294967295, 4294967296, -1000, 1000, 64] r2 = z at this ⊢
    simp only [List.mem_cons, List.not_mem_nil, or_false] at this
    omega
  · rw [if_neg c2]
    obtain ⟨r2, a2, s2, e2, k2, g3, g4, _⟩ := pick_ok hl k1 (by omega) 14 (by omega)
    rw [e2]
    simp only [Option.bind_some]
    have := g4 (by omega)
    exact ⟨_, _, _, rfl, k2.mono (by omega), by rw [w64 (by omega) (by omega)]; omega, by rw [w64 (by omega) (by omega)]; omega⟩

theorem open_ok {l : List Int} (hl : Bytes l) : ∃ s, spec_l01Open.f l = some (l, 0, s) ∧ Cur 0 0 s := by
  unfold spec_l01Open.f
  refine ⟨_, rfl, by omega, by omega, ?_, ?_⟩ <;> omega
theorem big_or {l : List Int} (hw : ∀ x ∈ l, (Lit.int .u8 x).wf = true) : laws_big.f l = some true ∨ laws_big.f l = some false ∧ Bytes l := by
  unfold laws_big.f
  by_cases h : (l.length : Int) > 1048576
  · exact .inl (by rw [decide_eq_true h])
  · exact .inr ⟨by rw [decide_eq_false h], by omega, fun x hx => wf_u8 (hw x hx)⟩
end Go.Proofs.Ytobboonnfocalaa.Base
