/- What the reference's drawing of live blocks and of one more block comes to: some lists and numbers. Conditions: none. -/
import Derived.Test.YtobboonnfocalaaDraw
import Derived.Test.YtobboonnfocalaaLivePure
import Derived.Test.YtobboonnfocalaaPB1x10
import Derived.Test.YtobboonnfocalaaPB1x11
import Derived.Test.YtobboonnfocalaaPB1x14
import Derived.Test.YtobboonnfocalaaPB1x8
import Derived.Test.YtobboonnfocalaaPB1x9
set_option linter.unusedVariables false
set_option linter.unusedSimpArgs false
namespace Go.Proofs.Ytobboonnfocalaa.Lv
open Go.RowKit Go.Proofs.Ytobboonnfocalaa.Base Go.Proofs.Ytobboonnfocalaa.PB1 Go.Proofs.Ytobboonnfocalaa.Sl Go.Proofs.YtobboonnfocalaaW.PrintWords Go.Proofs.YtobboonnfocalaaW.PrintLast Go.Proofs.YtobboonnfocalaaW.PrintMore

def I64 (x : Int) : Prop := -9223372036854775808 ≤ x ∧ x ≤ 9223372036854775807
theorem live_tail {l : List Int} (hl : Bytes l) (w : Int) (hw : 0 ≤ w ∧ w ≤ 64) (L : List BI) (at_ : Int) (B a s : Int) (hc : Cur B a s) (hB : B ≤ 1000) (hL : L.length ≤ 10) (hwf : ∀ b ∈ L, wfB b) (k : Nat) :
    ∃ L' w' a' s', spec_l01Cur_live.l0 (k + 1) w L at_ 0 l a s = some (L', w', a', s') ∧ Cur (B + 20) a' s' ∧ L'.length ≤ 11 ∧ (∀ b ∈ L', wfB b) ∧ I64 w' := by
  rw [spec_l01Cur_live.l0, if_neg (by omega)]
  obtain ⟨c, a1, s1, e1, hc1, c0, c1, _⟩ := pick_ok hl hc (by omega) 14 (by omega)
  have c1 := c1 (by omega)
  rw [e1, Option.bind_some]
  by_cases d0 : c = 0
  · rw [if_pos d0]
    obtain ⟨r, a2, s2, e2, hc2, r0, r1⟩ := raw_ok hl hc1 (by omega)
    rw [e2, Option.bind_some, Option.bind_some]
    obtain ⟨j, a3, s3, e3, hc3, j0, j1, _⟩ := pick_ok hl hc2 (by omega) 3 (by omega)
    have j1 := j1 (by omega)
    rw [e3, Option.bind_some, if_pos j0, if_pos (by show j < ((3 : Nat) : Int); omega)]
    have hm := rd_mem (xs := [r, 256, 257]) j0 (by show j < ((3 : Nat) : Int); omega)
    refine ⟨_, _, _, _, rfl, hc3.mono (by omega), by omega, hwf, ?_⟩
    show I64 (rd [r, 256, 257] j)
    generalize rd [r, 256, 257] j = z at hm
    simp only [List.mem_cons, List.not_mem_nil, or_false] at hm
    rcases hm with rfl | rfl | rfl
    · exact ⟨r0, r1⟩
    · exact ⟨by omega, by omega⟩
    · exact ⟨by omega, by omega⟩
  · rw [if_neg d0]
    by_cases d1 : c = 1
    · rw [if_pos d1]
      obtain ⟨r, a2, s2, e2, hc2, r0, r1⟩ := raw_ok hl hc1 (by omega)
      rw [e2, Option.bind_some]
      obtain ⟨j, a3, s3, e3, hc3, j0, j1, _⟩ := pick_ok hl hc2 (by omega) 5 (by omega)
      have j1 := j1 (by omega)
      rw [e3, Option.bind_some, if_pos (by omega)]
      refine ⟨_, _, _, _, rfl, hc3.mono (by omega), by simp; omega, fun b hb => ?_, by unfold I64; omega⟩
      rcases List.mem_append.1 hb with hb | hb
      · exact hwf b hb
      · rw [List.mem_singleton] at hb
        subst hb
        exact ⟨⟨r0, r1⟩, by show -9223372036854775808 ≤ j ∧ j ≤ 9223372036854775807; omega⟩
    · rw [if_neg d1]
      by_cases d2 : c = 2
      · rw [if_pos d2]
        by_cases d3 : (L.length : Int) > 0
        · rw [if_pos d3]
          obtain ⟨j, a2, s2, e2, hc2, j0, j1, j2⟩ := pick_ok hl hc1 (by omega) (L.length : Int) (by omega)
          have hj : j < (L.length : Int) := by
            by_cases q : 2 ≤ (L.length : Int)
            · exact j1 q
            · have := j2 (by omega); omega
          obtain ⟨r, a3, s3, e3, hc3, r0, r1⟩ := raw_ok hl hc2 (by omega)
          rw [e2, Option.bind_some, e3, Option.bind_some, if_pos j0, if_pos hj]
          refine ⟨_, _, _, _, rfl, hc3.mono (by omega), by rw [List.length_set]; omega, fun b hb => ?_, by unfold I64; omega⟩
          rcases List.mem_or_eq_of_mem_set hb with hb | rfl
          · exact hwf b hb
          · have hx := hwf (rd_T37 L j) (by
              have : rd_T37 L ((j.toNat : Nat) : Int) = L[j.toNat]'(by omega) := rdB L j.toNat (by omega)
              rw [Int.toNat_of_nonneg j0] at this
              rw [this]
              exact List.getElem_mem _)
            exact ⟨hx.1, ⟨r0, r1⟩⟩
        · rw [if_neg d3]
          exact ⟨_, _, _, _, rfl, hc1.mono (by omega), by omega, hwf, by unfold I64; omega⟩
      · rw [if_neg d2]
        exact ⟨_, _, _, _, rfl, hc1.mono (by omega), by omega, hwf, by unfold I64; omega⟩
theorem live_loop {l : List Int} (hl : Bytes l) (w : Int) (hw : 0 ≤ w ∧ w ≤ 64) : ∀ (m : Nat) (L : List BI) (at_ : Int) (B a s : Int) (k : Nat), Cur B a s → B + 2 * m ≤ 1000 → m < k → L.length + m ≤ 10 → (∀ b ∈ L, wfB b) → 0 ≤ at_ ∧ at_ + 10 * m ≤ 1000 →
    ∃ L' w' a' s', spec_l01Cur_live.l0 k w L at_ (m : Int) l a s = some (L', w', a', s') ∧ Cur (B + 2 * m + 20) a' s' ∧ L'.length ≤ 11 ∧ (∀ b ∈ L', wfB b) ∧ I64 w'
  | 0, L, at_, B, a, s, k, hc, hB, hk, hL, hwf, ha => by
    obtain ⟨k, rfl⟩ : ∃ m, k = m + 1 := ⟨k - 1, by omega⟩
    have := live_tail hl w hw L at_ B a s hc (by omega) (by omega) hwf k
    simpa using this
  | m + 1, L, at_, B, a, s, k, hc, hB, hk, hL, hwf, ha => by
    obtain ⟨k, rfl⟩ : ∃ m, k = m + 1 := ⟨k - 1, by omega⟩
    obtain ⟨r, a1, s1, e1, hc1, r0, r1, _⟩ := pick_ok hl hc (by omega) 6 (by omega)
    have r1 := r1 (by omega)
    obtain ⟨q, a2, s2, e2, hc2, q0, q1, _⟩ := pick_ok hl hc1 (by omega) 4 (by omega)
    have q1 := q1 (by omega)
    rw [spec_l01Cur_live.l0, if_pos (by omega), e1, Option.bind_some, w64 (n := 1 + r) (by omega) (by omega), w64 (n := at_ + (1 + r)) (by omega) (by omega), e2, w64 (n := ((m + 1 : Nat) : Int) - 1) (by omega) (by omega), show ((m + 1 : Nat) : Int) - 1 = (m : Int) by omega]
    by_cases c : at_ + (1 + r) ≤ w
    · rw [if_pos c, if_pos (by omega), Option.bind_some]
      dsimp only
      rw [w64 (n := at_ + (1 + r) + q) (by omega) (by omega)]
      obtain ⟨L', w', a', s', e, z1, z2, z3, z4⟩ := live_loop hl w hw m (L ++ [⟨at_, 1 + r⟩]) (at_ + (1 + r) + q) (B + 1 + 1) a2 s2 k hc2 (by omega) (by omega) (by simp; omega) (fun b hb => by
        rcases List.mem_append.1 hb with hb | hb
        · exact hwf b hb
        · rw [List.mem_singleton] at hb
          subst hb
          exact ⟨by show -9223372036854775808 ≤ at_ ∧ at_ ≤ 9223372036854775807; omega, by show -9223372036854775808 ≤ 1 + r ∧ 1 + r ≤ 9223372036854775807; omega⟩) (by omega)
      exact ⟨L', w', a', s', e, z1.mono (by omega), z2, z3, z4⟩
    · rw [if_neg c, Option.bind_some]
      dsimp only
      rw [w64 (n := at_ + (1 + r) + q) (by omega) (by omega)]
      obtain ⟨L', w', a', s', e, z1, z2, z3, z4⟩ := live_loop hl w hw m L (at_ + (1 + r) + q) (B + 1 + 1) a2 s2 k hc2 (by omega) (by omega) (by omega) hwf (by omega)
      exact ⟨L', w', a', s', e, z1.mono (by omega), z2, z3, z4⟩
theorem live_ok {l : List Int} (hl : Bytes l) {B a s : Int} (hc : Cur B a s) (hB : B ≤ 100) (k : Nat) (hk : 20 < k) :
    ∃ L w a' s', spec_l01Cur_live.f k l a s = some (L, w, a', s') ∧ Cur (B + 60) a' s' ∧ L.length ≤ 11 ∧ (∀ b ∈ L, wfB b) ∧ I64 w := by
  unfold spec_l01Cur_live.f spec_l01Cur_size.f
  obtain ⟨r, a1, s1, e1, hc1, r0, r1, _⟩ := pick_ok hl hc (by omega) 5 (by omega)
  have r1 := r1 (by omega)
  obtain ⟨q, a2, s2, e2, hc2, q0, q1, _⟩ := pick_ok hl hc1 (by omega) 4 (by omega)
  have q1 := q1 (by omega)
  have hlen := hl.1
  have hd : 0 ≤ (l.length : Int) / 8 ∧ (l.length : Int) / 8 ≤ 1048576 := by omega
  have hs : wrap64 ((mn 10 (wrap64 (1 + (wrap64 ((l.length : Int) / 8))))) + 1) = mn 10 (1 + (l.length : Int) / 8) + 1 := by
    rw [w64 (n := (l.length : Int) / 8) (by omega) (by omega), w64 (n := 1 + (l.length : Int) / 8) (by omega) (by omega)]
    apply w64
    · unfold mn; split <;> omega
    · unfold mn; split <;> omega
  have hn : 2 ≤ mn 10 (1 + (l.length : Int) / 8) + 1 ∧ mn 10 (1 + (l.length : Int) / 8) + 1 ≤ 11 := by unfold mn; split <;> omega
  obtain ⟨m, a3, s3, e3, hc3, m0, m1, _⟩ := pick_ok hl hc2 (by omega) (mn 10 (1 + (l.length : Int) / 8) + 1) (by omega)
  have m1 := m1 (by omega)
  rw [e1, Option.bind_some, e2, Option.bind_some, hs, e3, Option.bind_some, Option.bind_some, w64 (n := 16 * r) (by omega) (by omega)]
  obtain ⟨L, w, a', s', e, z1, z2, z3, z4⟩ := live_loop hl (16 * r) (by omega) m.toNat [] q (B + 1 + 1 + 1) a3 s3 k hc3 (by omega) (by omega) (by simp; omega) (fun b hb => by cases hb) (by omega)
  rw [Int.toNat_of_nonneg m0] at e
  exact ⟨L, w, a', s', e, z1.mono (by omega), z2, z3, z4⟩
theorem draw_end {l : List Int} (hl : Bytes l) (L : List BI) (w : Int) {B a s : Int} (hc : Cur B a s) (hB : B ≤ 1000) (b0 b1 : Int) (h0 : I64 b0) (h1 : I64 b1) (k : Nat) :
    ∃ c0 c1, spec_DrawLiveAdd.j1 (k + 1) L w l a s b0 b1 = some (L, w, c0, c1) ∧ I64 c0 ∧ I64 c1 := by
  obtain ⟨r, a1, s1, e1, hc1, _⟩ := pick_ok hl hc (by omega) 14 (by omega)
  rw [spec_DrawLiveAdd.j1]
  unfold spec_l01Cur_once.f
  rw [e1, Option.bind_some, Option.bind_some]
  by_cases d : (r == wrap64 (14 - 1)) = true
  · rw [if_pos d]
    obtain ⟨q, a2, s2, e2, hc2, q0, q1⟩ := raw_ok hl hc1 (by omega)
    rw [e2, Option.bind_some]
    exact ⟨_, _, rfl, ⟨q0, q1⟩, h1⟩
  · rw [if_neg d]
    exact ⟨_, _, rfl, h0, h1⟩
theorem draw_ok {l : List Int} (hl : Bytes l) (k : Nat) (hk : 200 < k) :
    ∃ L w b0 b1, spec_DrawLiveAdd.f k l = some (L, w, b0, b1) ∧ L.length ≤ 11 ∧ (∀ b ∈ L, wfB b) ∧ I64 w ∧ I64 b0 ∧ I64 b1 := by
  obtain ⟨k, rfl⟩ : ∃ m, k = m + 2 := ⟨k - 2, by omega⟩
  unfold spec_DrawLiveAdd.f
  obtain ⟨s, e0, hc0⟩ := open_ok hl
  obtain ⟨L, w, a1, s1, e1, hc1, hL, hwf, hw⟩ := live_ok hl hc0 (by omega) (k + 2) (by omega)
  obtain ⟨r, a2, s2, e2, hc2, r0, r1, _⟩ := pick_ok hl hc1 (by omega) 70 (by omega)
  have r1 := r1 (by omega)
  obtain ⟨q, a3, s3, e3, hc3, q0, q1, _⟩ := pick_ok hl hc2 (by omega) 4 (by omega)
  have q1 := q1 (by omega)
  have ef := spec_free_eq L w hwf (by omega) (k + 2) (by omega)
  have hfr : (freeOf L w).length ≤ 1048577 := freeOf_len L w (by omega)
  rw [e0, Option.bind_some, e1, Option.bind_some, e2, Option.bind_some, e3, Option.bind_some, ef, Option.bind_some, w64 (n := 1 + q) (by omega) (by omega)]
  have jn : ∀ {B a s : Int}, Cur B a s → B ≤ 500 → ∃ c0 c1, spec_DrawLiveAdd.j0 (k + 2) L w (freeOf L w) false l a s r (1 + q) = some (L, w, c0, c1) ∧ I64 c0 ∧ I64 c1 := fun hc hB => by
    obtain ⟨c0, c1, e, h⟩ := draw_end hl L w hc (by omega) r (1 + q) (by unfold I64; omega) (by unfold I64; omega) k
    exact ⟨c0, c1, by rw [spec_DrawLiveAdd.j0, if_neg (by simp)]; exact e, h⟩
  by_cases d : ((freeOf L w).length : Int) > 0
  · rw [if_pos d]
    unfold spec_l01Cur_once.f
    obtain ⟨o, a4, s4, e4, hc4, _⟩ := pick_ok hl hc3 (by omega) 3 (by omega)
    rw [e4, Option.bind_some, Option.bind_some]
    cases ho : (!(o == wrap64 (3 - 1))) with
    | false =>
      obtain ⟨c0, c1, e, h0, h1⟩ := jn hc4 (by omega)
      exact ⟨L, w, c0, c1, e, hL, hwf, hw, h0, h1⟩
    | true =>
      obtain ⟨j, a5, s5, e5, hc5, j0, j1, j2⟩ := pick_ok hl hc4 (by omega) ((freeOf L w).length : Int) (by omega)
      have hj : j < ((freeOf L w).length : Int) := by
        by_cases q : 2 ≤ ((freeOf L w).length : Int)
        · exact j1 q
        · have := j2 (by omega); omega
      obtain ⟨t, a6, s6, e6, hc6, t0, t1, _⟩ := pick_ok hl hc5 (by omega) 3 (by omega)
      have t1 := t1 (by omega)
      have hok : liveOk L w = true := by
        cases h : liveOk L w with
        | true => rfl
        | false => unfold freeOf at d; rw [h] at d; simp at d
      have hx : rd_T37 (freeOf L w) j ∈ freeOf L w := by
        have : rd_T37 (freeOf L w) ((j.toNat : Nat) : Int) = (freeOf L w)[j.toNat]'(by omega) := rdB _ j.toNat (by omega)
        rw [Int.toNat_of_nonneg j0] at this
        rw [this]
        exact List.getElem_mem _
      obtain ⟨f1, f2, f3, _⟩ := (free_ins hok).1 _ hx
      rw [spec_DrawLiveAdd.j0, if_pos rfl, e5, Option.bind_some, if_pos j0, if_pos hj, e6, Option.bind_some]
      obtain ⟨c0, c1, e, h0, h1⟩ := draw_end hl L w hc6 (by omega) (rd_T37 (freeOf L w) j).f0 (mx 1 (wrap64 ((rd_T37 (freeOf L w) j).f1 - t))) (by unfold I64; omega) (by rw [w64 (by omega) (by omega)]; unfold I64 mx; split <;> omega) k
      exact ⟨L, w, c0, c1, e, hL, hwf, hw, h0, h1⟩
  · rw [if_neg d]
    obtain ⟨c0, c1, e, h0, h1⟩ := jn hc3 (by omega)
    exact ⟨L, w, c0, c1, e, hL, hwf, hw, h0, h1⟩
theorem pick3 {l : List Int} (hl : Bytes l) (n : Int) (hn : 1 ≤ n ∧ n ≤ 1000) (m : Nat) : ∃ r, laws_pick.f (m + 6) l 3 n = some r ∧ 0 ≤ r ∧ r < n := by
  obtain ⟨hlen, hby⟩ := hl
  unfold laws_pick.f
  by_cases c : (l.length : Int) = 0
  · rw [if_pos c, laws_pick.j0, if_pos rfl]
    exact ⟨0, rfl, by omega, by omega⟩
  · rw [if_neg c, laws_pick.j0]
    by_cases c2 : n < 2
    · rw [if_pos (decide_eq_true c2)]
      exact ⟨0, rfl, by omega, by omega⟩
    · rw [if_neg (by simpa using c2)]
      have step : ∀ (k : Nat) (x i : Int), 0 ≤ i → i < 3 → 0 ≤ x → x ≤ 1000000 → ∃ x', 0 ≤ x' ∧ x' ≤ 31 * x + 255 ∧ laws_pick.l0 (k + 1) l 3 n x i = laws_pick.l0 k l 3 n x' (i + 1) := by
        intro k x i h0 h3 hx hx'
        have hm0 : 0 ≤ (3 + i) % (l.length : Int) := Int.emod_nonneg _ (by omega)
        have hm1 : (3 + i) % (l.length : Int) < l.length := Int.emod_lt_of_pos _ (by omega)
        have hr := hby _ (rd_mem hm0 hm1)
        refine ⟨31 * x + rd l ((3 + i) % (l.length : Int)), by omega, by omega, ?_⟩
        rw [laws_pick.l0, if_pos h3, if_neg c, w64 (n := 3 + i) (by omega) (by omega), Int.tmod_eq_emod_of_nonneg (show 0 ≤ 3 + i by omega), if_pos hm0, if_pos hm1, w64 (n := 31 * x) (by omega) (by omega), w64 (n := rd l ((3 + i) % (l.length : Int))) (by omega) (by omega), w64 (n := 31 * x + _) (by omega) (by omega), w64 (n := i + 1) (by omega) (by omega)]
      obtain ⟨x1, a1, b1, e1⟩ := step (m + 4) 0 0 (by omega) (by omega) (by omega) (by omega)
      obtain ⟨x2, a2, b2, e2⟩ := step (m + 3) x1 (0 + 1) (by omega) (by omega) (by omega) (by omega)
      obtain ⟨x3, a3, b3, e3⟩ := step (m + 2) x2 (0 + 1 + 1) (by omega) (by omega) (by omega) (by omega)
      refine ⟨(x3 + 3) % n, ?_, Int.emod_nonneg _ (by omega), Int.emod_lt_of_pos _ (by omega)⟩
      rw [show m + 5 = m + 4 + 1 by omega, e1, show m + 4 = m + 3 + 1 by omega, e2, show m + 3 = m + 2 + 1 by omega, e3, laws_pick.l0, if_neg (by omega), if_neg (by omega), w64 (by omega) (by omega), Int.tmod_eq_emod_of_nonneg (by omega)]
end Go.Proofs.Ytobboonnfocalaa.Lv
