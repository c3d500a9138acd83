/- A block that was added is found at each of its words and is gone after it is cut; free words and words in blocks are all words. Conditions: none. -/
import Derived.Test.YtobboonnfocalaaLiveDraw
import Derived.Test.YtobboonnfocalaaPB1x13
import Derived.Test.YtobboonnfocalaaPB1x15
set_option linter.unusedVariables false
set_option linter.unusedSimpArgs false
namespace Go.Proofs.Ytobboonnfocalaa.Pure
open Go.RowKit Go.Proofs.Ytobboonnfocalaa.Base Go.Proofs.Ytobboonnfocalaa.Lv Go.Proofs.Ytobboonnfocalaa.PB1 Go.Proofs.Ytobboonnfocalaa.Sl Go.Proofs.YtobboonnfocalaaW.PrintWords Go.Proofs.YtobboonnfocalaaW.PrintLast

theorem sameLive_self (l : List BI) (hn : l.length ≤ 1048576) : ∀ (d i : Nat) (k : Nat), i + d = l.length → d < k → laws_sameLive.l0 k l l (i : Int) = some true
  | 0, i, k, hd, hk => by
    obtain ⟨k, rfl⟩ : ∃ m, k = m + 1 := ⟨k - 1, by omega⟩
    rw [laws_sameLive.l0, if_neg (by omega)]
  | d + 1, i, k, hd, hk => by
    obtain ⟨k, rfl⟩ : ∃ m, k = m + 1 := ⟨k - 1, by omega⟩
    have ih := sameLive_self l hn d (i + 1) k (by omega) (by omega)
    rw [laws_sameLive.l0, if_pos (by omega), if_pos (by omega), if_pos (by omega), if_neg (by simp), w64 (by omega) (by omega), show (i : Int) + 1 = ((i + 1 : Nat) : Int) by omega, ih]
theorem same_self (l : List BI) (hn : l.length ≤ 1048576) (k : Nat) (hk : l.length < k) : laws_sameLive.f k l l = some true := by
  unfold laws_sameLive.f
  rw [if_pos rfl]
  exact sameLive_self l hn l.length 0 k (by omega) hk
theorem live_rounds (L M F : List BI) (w : Int) (f c t : Bool) (less : List BI) (size b0 b1 g0 g1 : Int) (hwf : ∀ b ∈ M, wfB b) (hM : M.length ≤ 1000) (hn : F.length ≤ 1048576) (hF : ∀ x ∈ F, 1 ≤ x.f1 ∧ x.f1 ≤ 256 ∧ findOf M w x.f0 = (0, 0, false)) (k : Nat) (hk : M.length + 1 < k) :
    ∀ (d i : Nat) (n : Int), i + d = F.length → 0 ≤ n → n + sumB (F.drop i) ≤ 1000000 → laws_FnLive.l0 (k + d) L w M f less size c t F n (i : Int) b0 b1 g0 g1 = laws_FnLive.l0 k L w M f less size c t F (n + sumB (F.drop i)) (F.length : Int) b0 b1 g0 g1
  | 0, i, n, hd, h0, h1 => by
    rw [List.drop_eq_nil_of_le (by omega), sumB, Int.add_zero, Nat.add_zero, show i = F.length by omega]
  | d + 1, i, n, hd, h0, h1 => by
    have hi : i < F.length := by omega
    have hx : rd_T37 F (i : Int) ∈ F := by rw [rdB F i hi]; exact List.getElem_mem hi
    obtain ⟨q1, q2, q3⟩ := hF _ hx
    have hs := sumB_nonneg (F.drop (i + 1)) (fun y hy => by have := (hF y (List.mem_of_mem_drop hy)).1; omega)
    rw [sumB_drop F i hi] at h1 ⊢
    have ih := live_rounds L M F w f c t less size b0 b1 g0 g1 hwf hM hn hF k hk d (i + 1) (n + (rd_T37 F (i : Int)).f1) (by omega) (by omega) (by omega)
    have hf := impl_find_eq M w (rd_T37 F (i : Int)).f0 hwf (by omega) (k + d) (by omega)
    rw [show k + (d + 1) = k + d + 1 by omega, laws_FnLive.l0, if_pos (by omega), if_pos (by omega), hf, Option.bind_some, q3, if_neg (by simp), if_neg (by omega), w64 (n := n + _) (by omega) (by omega), w64 (by omega) (by omega), show (i : Int) + 1 = ((i + 1 : Nat) : Int) by omega, ih, Int.add_assoc]
theorem live_end {l : List Int} (hl : Bytes l) (L : List BI) (w : Int) (b : BI) (hwf : ∀ x ∈ L, wfB x) (hb : wfB b) (hL : L.length ≤ 11) (hok : liveOk L w = true) (hadd : liveOk (ins L b) w = true) (want : List BI) (v7 : Bool) (k : Nat) (hk : 400 < k) :
    laws_FnLive.j0 (k + 1) l L w want v7 (ins L b) true false b.f0 b.f1 = some true := by
  have hr := ins_range hadd
  have hMwf := ins_wf L b hwf hb
  have hMl := ins_len L b
  obtain ⟨t, ep, t0, t1⟩ := pick3 hl b.f1 (by omega) (k - 6)
  rw [show k - 6 + 6 = k by omega] at ep
  have e1 := impl_find_eq (ins L b) w (b.f0 + t) hMwf (by omega) k (by omega)
  rw [find_ins hadd t t0 t1] at e1
  have e2 := impl_cut_eq (ins L b) w b.f0 hMwf (by omega) k (by omega)
  rw [cut_ins hadd] at e2
  have e3 := impl_add_eq (ins L b) w b hMwf hb (by omega) k (by omega)
  have e4 := impl_free_eq (ins L b) w hMwf (by omega) k (by omega)
  have e5 := impl_sum_eq (ins L b) w hMwf (by omega) hadd k (by omega)
  obtain ⟨hF, hsum⟩ := free_ins hadd
  have hsz := live_sizes hadd
  have hfl : (freeOf (ins L b) w).length ≤ 300 := by
    have : (freeOf (ins L b) w).length ≤ (ins L b).length + 1 := by unfold freeOf; rw [if_pos hadd]; exact free_len w (ins L b) 0
    omega
  have hfs := sumB_nonneg (freeOf (ins L b) w) (fun x hx => by have := (hF x hx).1; omega)
  have e6 := live_rounds L (ins L b) (freeOf (ins L b) w) w true true (addOf (ins L b) w b).2 L b.f1 b.f0 b.f1 b.f0 b.f1 hMwf (by omega) (by omega) (fun x hx => by obtain ⟨q1, q2, q3, q4⟩ := hF x hx; exact ⟨q1, q3, q4⟩) (k - (freeOf (ins L b) w).length) (by omega) (freeOf (ins L b) w).length 0 (sumB (ins L b)) (by omega) hsz.2.1 (by rw [List.drop_zero]; omega)
  rw [List.drop_zero, show k - (freeOf (ins L b) w).length + (freeOf (ins L b) w).length = k by omega, hsum] at e6
  rw [laws_FnLive.j0, if_neg (by simp), ep, Option.bind_some, w64 (n := b.f0 + t) (by omega) (by omega), e1, Option.bind_some, e2, Option.bind_some, e3, Option.bind_some, e4, Option.bind_some, e5, Option.bind_some]
  show laws_FnLive.l0 k L w (ins L b) true L b.f1 true (addOf (ins L b) w b).2 (freeOf (ins L b) w) (sumB (ins L b)) ((0 : Nat) : Int) b.f0 b.f1 b.f0 b.f1 = some true
  rw [e6]
  obtain ⟨m, hm⟩ : ∃ m, k - (freeOf (ins L b) w).length = m + 1 := ⟨k - (freeOf (ins L b) w).length - 1, by omega⟩
  rw [hm]
  have e7 := same_self L (by omega) m (by omega)
  have e8 := impl_sum_eq (ins L b) w hMwf (by omega) hadd m (by omega)
  have e9 := spec_sum_eq L w hwf (by omega) hok m (by omega)
  have hs := sum_ins b L
  have hLs := live_sizes hok
  rw [laws_FnLive.l0, if_neg (by omega), if_pos rfl, if_pos (by simp), if_pos rfl, if_pos rfl, e7, Option.bind_some, if_pos rfl, add_twice, if_neg (by simp), if_pos rfl, e8, Option.bind_some, e9, Option.bind_some, w64 (n := sumB L + b.f1) (by omega) (by omega), hs]
  simp
theorem FnLive : laws_FnLive.Pure := by
  intro l _ _ hw
  rcases big_or hw with hbig | ⟨hbig, hl⟩
  · refine ⟨1, ?_⟩
    unfold laws_FnLive.f
    rw [hbig, Option.bind_some, if_pos rfl]
  · obtain ⟨L, w, b0, b1, e0, hL, hwf, hw64, h0, h1⟩ := draw_ok hl 1001 (by omega)
    have hb : wfB ⟨b0, b1⟩ := ⟨h0, h1⟩
    refine ⟨1001, ?_⟩
    have e1 := spec_add_eq L w ⟨b0, b1⟩ hwf hb (by omega) 1001 (by omega)
    have e2 := impl_add_eq L w ⟨b0, b1⟩ hwf hb (by omega) 1001 (by omega)
    have hlen := addOf_len L w ⟨b0, b1⟩
    have e3 := same_self (addOf L w ⟨b0, b1⟩).1 (by omega) 1001 (by omega)
    have e3' := same_self (addOf L w ⟨b0, b1⟩).1 (by omega) 1000 (by omega)
    unfold laws_FnLive.f
    rw [hbig, Option.bind_some, if_neg (by simp), e0, Option.bind_some]
    dsimp only at e1 e2 ⊢
    rw [e1, Option.bind_some, e2, Option.bind_some, if_neg (by simp), e3, Option.bind_some, if_pos rfl]
    cases hok : (addOf L w ⟨b0, b1⟩).2 with
    | false =>
      rw [show (1001 : Nat) = 1000 + 1 from rfl, laws_FnLive.j0, if_pos (show (!false) = true from rfl), if_pos (show (false == false) = true from rfl), e3', Option.bind_some]
    | true =>
      obtain ⟨q1, q2, q3⟩ := add_parts hok
      rw [q3]
      exact live_end hl L w ⟨b0, b1⟩ hwf hb hL q1 q2 _ _ 1000 (by omega)
end Go.Proofs.Ytobboonnfocalaa.Pure
