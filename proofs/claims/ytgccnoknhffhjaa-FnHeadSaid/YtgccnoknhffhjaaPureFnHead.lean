/- HeadWord has no block of a page, and nothing can be claimed from it or from HeldWord. Conditions: none. -/
import Derived.Test.YtgccnoknhffhjaaOnesPure
import Derived.Test.YtgccnoknhffhjaaDraw
import Derived.Test.YtgccnoknhffhjaaPA1x35
import Derived.Test.YtgccnoknhffhjaaPA1x36
import Derived.Test.YtgccnoknhffhjaaPA1x7
set_option linter.unusedVariables false
set_option linter.unusedSimpArgs false
namespace Go.Proofs.Ytgccnoknhffhjaa.Pure
open Go.RowKit Go.Proofs.Ytgccnoknhffhjaa.Base Go.Proofs.Ytgccnoknhffhjaa.PA1 Go.Proofs.YtgccnoknhffhjaaW.PrintWords Go.Proofs.YtgccnoknhffhjaaW.PrintLast

theorem drawn {l : List Int} (hl : Bytes l) : ∃ r, spec_DrawHeadWord.f l = some r := by
  unfold spec_DrawHeadWord.f
  obtain ⟨s, e0, k0⟩ := open_ok hl
  rw [e0]; simp only [Option.bind_some]
  obtain ⟨r1, a1, s1, e1, k1, g1, g2, _⟩ := pick_ok hl k0 (by omega) 18 (by omega)
  rw [e1]; simp only [Option.bind_some]
  obtain ⟨r2, a2, s2, e2, k2, _⟩ := raw_ok hl k1 (by omega)
  rw [e2]; simp only [Option.bind_some]
  obtain ⟨r3, a3, s3, e3, k3, g3, g4, _⟩ := pick_ok hl k2 (by omega) 2 (by omega)
  rw [e3]; simp only [Option.bind_some]
  rw [if_pos g3, if_pos (by have := g4 (by omega); simpa using this)]
  exact ⟨_, rfl⟩
theorem held_eq : impl_HeldWord.f = some 3145728 := by
  unfold impl_HeldWord.f
  rw [impl_pack 3 0 0 0 (by omega) (by omega) (by omega) (by omega)]
  rfl
theorem held_read : ctlRead 3145728 = (3, 0, 0, 0, true) := ctlRead_word 3 0 0 0 (by omega) (by decide)
theorem room_not {x a d c : Int} (h : ctlRead x = (a, 0, 0, d, true)) (ha : a = 2 ∨ a = 3) : room x c = 0 := by
  unfold room
  rw [h, if_pos rfl, if_neg (show ¬ a = 0 by omega), if_neg (show ¬ (a = 1 ∧ _) by omega)]
theorem block_not {x : Int} (h0 : 0 ≤ x) (h1 : x ≤ 4294967295) (h : (ctlRead x).1 ≠ 1) (k : Nat) (hk : 1 < k) : impl_BlockAt.f k x 0 = some (0, 0, false) := by
  unfold impl_BlockAt.f
  rw [impl_ctlRead x h0 h1 k hk, Option.bind_some]
  by_cases c : (ctlRead x).2.2.2.2 = true
  · rw [if_pos c, if_neg h]
  · rw [if_neg c]
theorem taken_eq {x a d : Int} (h0 : 0 ≤ x) (h1 : x ≤ 4294967295) (h : ctlRead x = (a, 0, 0, d, true)) (ha : a = 2 ∨ a = 3) (k : Nat) (hk : 1 < k) : impl_TakenWords.f k x = some (if a = 2 then 16 else 0) := by
  obtain ⟨k, rfl⟩ : ∃ m, k = m + 1 := ⟨k - 1, by omega⟩
  unfold impl_TakenWords.f
  rw [impl_ctlRead x h0 h1 _ hk, h]
  simp only [Option.bind_some, if_true, impl_TakenWords.j0]
  rw [if_neg (by simp; omega)]
  split <;> rfl

/-- The loop over the classes. -/
theorem loop_eq (x : Int) (ok : Bool) (h0 : 0 ≤ x) (h1 : x ≤ 4294967295) (hok : ok = true → ∃ d, ctlRead x = (2, 0, 0, d, true)) (hnot : (ctlRead x).1 ≠ 1) :
    ∀ (d i k : Nat), i + d = 5 → d + 10 < k → laws_FnHead.l0 k x ok 3145728 true (i : Int) 3 0 0 0 = some true
  | 0, i, k, hd, hk => by
    obtain ⟨k, rfl⟩ : ∃ m, k = m + 1 := ⟨k - 1, by omega⟩
    simp only [laws_FnHead.l0]
    rw [if_neg (by omega), block_not h0 h1 hnot k (by omega)]
    have t2 := taken_eq (x := 3145728) (by omega) (by omega) held_read (by omega) k (by omega)
    cases ok
    · simp [t2]
    · obtain ⟨d, hd⟩ := hok rfl
      have t1 := taken_eq h0 h1 hd (by omega) k (by omega)
      simp [t1, t2]
  | d + 1, i, k, hd, hk => by
    obtain ⟨k, rfl⟩ : ∃ m, k = m + 1 := ⟨k - 1, by omega⟩
    simp only [laws_FnHead.l0]
    have ih := loop_eq x ok h0 h1 hok hnot d (i + 1) k (by omega) (by omega)
    rw [if_pos (by omega), impl_room 3145728 i (by omega) (by omega) k (by omega), room_not held_read (by omega), Option.bind_some, if_pos rfl, w64 (n := (i : Int) + 1) (by omega) (by omega), show (i : Int) + 1 = ((i + 1 : Nat) : Int) by omega, ih]
    cases ok
    · simp
    · obtain ⟨e, he⟩ := hok rfl
      rw [if_pos rfl, impl_room x i h0 h1 k (by omega), room_not he (by omega)]
      simp

theorem main (l : List Int) (hw : ∀ x ∈ l, (Lit.int .u8 x).wf = true) (m : Nat) (hm : 80 < m) : laws_FnHead.f (m + 1) l = some true := by
  unfold laws_FnHead.f
  rcases big_or hw with h | ⟨h, hb⟩
  · rw [h]; rfl
  rw [h]
  obtain ⟨r, hd⟩ := drawn hb
  simp only [Option.bind_some]
  rw [if_neg (by simp), hd, Option.bind_some]
  unfold impl_HeadWord.f spec_HeadWord.f
  rw [impl_ctlOk 2 0 0 r _ (by omega), spec_pack 2 0 0 r (by omega) (by omega) _ (by omega)]
  simp only [Option.bind_some]
  have hh : impl_CtlRead.f m 3145728 = some (ctlRead 3145728) := impl_ctlRead _ (by omega) (by omega) _ (by omega)
  by_cases c : ctlOk 2 0 0 r = true
  · obtain ⟨p1, p2, p3, p4, p5⟩ := ctlOk_ranges c
    have pr := word_range 2 0 0 r (by omega) c
    have pe := ctlRead_word 2 0 0 r (by omega) c
    have L := loop_eq (word 2 0 0 r) true pr.1 pr.2 (fun _ => ⟨r, pe⟩) (by rw [pe]; show (2 : Int) ≠ 1; omega) 5 0 m (by omega) (by omega)
    rw [if_pos c, if_pos c, impl_pack 2 0 0 r (by omega) (by omega) (by omega) (by omega)]
    simp only [Option.bind_some, bne_self_eq_false, laws_FnHead.j0, held_eq, hh, held_read]
    rw [if_neg (by simp), if_neg (by simp)]
    exact L
  · have L := loop_eq 0 false (by omega) (by omega) (fun h => by cases h) (by decide) 5 0 m (by omega) (by omega)
    rw [if_neg c, if_neg c]
    simp only [Option.bind_some, bne_self_eq_false, laws_FnHead.j0, held_eq, hh, held_read]
    rw [if_neg (by simp), if_neg (by simp)]
    exact L
theorem FnHead : laws_FnHead.Pure := fun l _ _ hw => ⟨l.length + 100 + 1, main l hw (l.length + 100) (by omega)⟩

end Go.Proofs.Ytgccnoknhffhjaa.Pure
