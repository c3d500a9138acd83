/- The owners, the reference's function: it comes to the plain law's. Conditions: none. -/
import Derived.Test.YtobboonnfocalaaGreatDoorOwnLinkG1
import Derived.Test.YtobboonnfocalaaGreatDoorPG1x2
set_option linter.unusedVariables false
set_option linter.unusedSimpArgs false
namespace Go.Proofs.YtobboonnfocalaaGreatDoor.Own
open Go.RowKit Go.Proofs.YtobboonnfocalaaGreatDoor.Base Go.Proofs.YtobboonnfocalaaGreatDoor.PG1 Go.Proofs.YtobboonnfocalaaGreatDoorW.PrintWords Go.Proofs.YtobboonnfocalaaGreatDoorW.PrintLast Go.Proofs.YtobboonnfocalaaGreatDoorW.PrintMore

theorem Tells.bind {α β : Type} {f : Nat → Option α} {a : α} {g : Nat → α → Option β} {r : β} (h : Tells f a) (k : Tells (fun n => g n a) r) : Tells (fun n => (f n).bind (g n)) r := by
  obtain ⟨K1, h1⟩ := h
  obtain ⟨K2, h2⟩ := k
  refine ⟨K1 + K2, fun n hn => ?_⟩
  show (f n).bind (g n) = some r
  rw [h1 n (by omega), Option.bind_some]
  exact h2 n (by omega)
/-- The run of a large block. -/
theorem spec_fill (words : List Int) (ws : List S49) (i : Nat) (q1 q2 q3 run : Int) (r : List Int × Bool) (hi : i ≤ 100) (hrun : 0 ≤ run ∧ run ≤ 100) : ∀ (d e : Nat) (l : List Int), (e : Int) + d = run → l.length ≤ 100 →
    ((fillN (-2) d l (i + e)).1 = true → Tells (fun k => spec_l08Owners.l1 k l.length (fillN (-2) d l (i + e)).2 ((i : Int) + 1) words ws) r) → ((fillN (-2) d l (i + e)).1 = false → r = ([], false)) →
    Tells (fun k => spec_l08Owners.l2 k l.length l i e words ws q1 q2 q3 run) r
  | 0, e, l, he, hl, h1, h0 => by
    refine (h1 rfl).step 0 fun k _ => ?_
    rw [spec_l08Owners.l2, if_neg (by omega), w64 (by omega) (by omega)]
    rfl
  | d + 1, e, l, he, hl, h1, h0 => by
    unfold fillN at h1 h0
    have w1 : wrap64 ((i : Int) + (e : Int)) = ((i + e : Nat) : Int) := by rw [w64 (by omega) (by omega)]; omega
    have w2 : wrap64 ((e : Int) + 1) = ((e + 1 : Nat) : Int) := by rw [w64 (by omega) (by omega)]; omega
    by_cases c1 : i + e < l.length
    · rw [if_pos c1] at h1 h0
      by_cases c2 : l.getD (i + e) 0 = -1
      · rw [if_pos c2] at h1 h0
        have ih := spec_fill words ws i q1 q2 q3 run r hi hrun d (e + 1) (l.set (i + e) (-2)) (by omega) (by rw [List.length_set]; exact hl) (by rw [List.length_set]; exact h1) h0
        rw [List.length_set] at ih
        refine ih.step 0 fun k _ => ?_
        rw [spec_l08Owners.l2, if_pos (by omega), w1, if_neg (by omega), if_pos (by omega), if_pos (by omega), rd_nat, if_pos c2, Int.toNat_natCast, w2]
      · rw [if_neg c2] at h0
        rw [h0 rfl]
        refine Tells.now 0 fun k _ => ?_
        rw [spec_l08Owners.l2, if_pos (by omega), w1, if_neg (by omega), if_pos (by omega), if_pos (by omega), rd_nat, if_neg c2]
    · rw [if_neg c1] at h0
      rw [h0 rfl]
      refine Tells.now 0 fun k _ => ?_
      rw [spec_l08Owners.l2, if_pos (by omega), w1, if_pos (by omega)]
theorem spec_heads (words : List Int) (hu : U32 words) (hc : AllCtl words) (hn : words.length ≤ 16) (ws : List S49) (r : List Int × Bool) : ∀ (m i : Nat) (l : List Int), i + m = words.length → l.length = words.length →
    ((specHeads (Rw words) m i l).1 = true → Tells (fun k => spec_l08Owners.l3 k words.length (specHeads (Rw words) m i l).2 0 words ws) r) → ((specHeads (Rw words) m i l).1 = false → r = ([], false)) →
    Tells (fun k => spec_l08Owners.l1 k words.length l i words ws) r
  | 0, i, l, hm, hl, h1, h0 => by
    refine (h1 rfl).step 0 fun k _ => ?_
    rw [spec_l08Owners.l1, if_neg (by omega)]
    rfl
  | m + 1, i, l, hm, hl, h1, h0 => by
    have hi : i < words.length := by omega
    have hx := u32_at hu hi
    have hs := ctl_states hx (hc i hi)
    unfold specHeads at h1 h0
    have ih := spec_heads words hu hc hn ws r m (i + 1)
    have F := spec_fill words ws i (ctlRead (rd words (i : Int))).1 (ctlRead (rd words (i : Int))).2.1 (ctlRead (rd words (i : Int))).2.2.1 (ctlRead (rd words (i : Int))).2.2.2.1 r (by omega) (by omega) (Rw words i) 0 l (by unfold Rw; omega) (by omega) (fun ht => by
      rw [Nat.add_zero] at ht ⊢
      have hlen := fill_len _ _ _ _ ht
      rw [if_pos ht] at h1 h0
      rw [hl, show (i : Int) + 1 = ((i + 1 : Nat) : Int) by omega]
      exact ih _ (by omega) (by omega) h1 h0) (fun hf => by
      rw [Nat.add_zero] at hf
      rw [if_neg (by rw [hf]; decide)] at h0
      exact h0 rfl)
    rw [hl] at F
    obtain ⟨K, hK⟩ := F
    refine ⟨K + 60, fun k hk => ?_⟩
    obtain ⟨k, rfl⟩ : ∃ m, k = m + 1 := ⟨k - 1, by omega⟩
    show spec_l08Owners.l1 (k + 1) words.length l i words ws = some r
    rw [spec_l08Owners.l1, if_pos (by omega), if_pos (by omega), if_pos (by omega), spec_ctlRead _ hx.1 hx.2 k (by omega), Option.bind_some]
    exact hK k (by omega)
/-- The chunks that a warp holds. -/
theorem spec_wfill (words : List Int) (ws : List S49) (i : Nat) (hi : i < ws.length) (hw : ws.length ≤ 100) (x : S49) (hx : rd_T49 ws (i : Int) = x) (hr : (0 ≤ x.f5 ∧ x.f5 ≤ 16) ∧ (0 ≤ x.f6 ∧ x.f6 ≤ 16)) (r : List Int × Bool) : ∀ (d e : Nat) (l : List Int), (e : Int) + d = x.f6 → l.length ≤ 100 →
    ((fillN i d l (x.f5.toNat + e)).1 = true → Tells (fun k => spec_l08Owners.l3 k l.length (fillN i d l (x.f5.toNat + e)).2 ((i : Int) + 1) words ws) r) → ((fillN i d l (x.f5.toNat + e)).1 = false → r = ([], false)) →
    Tells (fun k => spec_l08Owners.l4 k l.length l i e words ws) r
  | 0, e, l, he, hl, h1, h0 => by
    refine (h1 rfl).step 0 fun k _ => ?_
    rw [spec_l08Owners.l4, hx, if_pos (by omega), if_pos (by omega), if_neg (by omega), w64 (by omega) (by omega)]
    rfl
  | d + 1, e, l, he, hl, h1, h0 => by
    unfold fillN at h1 h0
    have w1 : wrap64 (x.f5 + (e : Int)) = ((x.f5.toNat + e : Nat) : Int) := by rw [w64 (by omega) (by omega)]; omega
    have w2 : wrap64 ((e : Int) + 1) = ((e + 1 : Nat) : Int) := by rw [w64 (by omega) (by omega)]; omega
    by_cases c1 : x.f5.toNat + e < l.length
    · rw [if_pos c1] at h1 h0
      by_cases c2 : l.getD (x.f5.toNat + e) 0 = -1
      · rw [if_pos c2] at h1 h0
        have ih := spec_wfill words ws i hi hw x hx hr r d (e + 1) (l.set (x.f5.toNat + e) i) (by omega) (by rw [List.length_set]; exact hl) (by rw [List.length_set]; exact h1) h0
        rw [List.length_set] at ih
        refine ih.step 0 fun k _ => ?_
        rw [spec_l08Owners.l4, hx, if_pos (by omega), if_pos (by omega), if_pos (by omega), w1, if_neg (by omega), if_pos (by omega), if_pos (by omega), rd_nat, if_pos c2, Int.toNat_natCast, w2]
      · rw [if_neg c2] at h0
        rw [h0 rfl]
        refine Tells.now 0 fun k _ => ?_
        rw [spec_l08Owners.l4, hx, if_pos (by omega), if_pos (by omega), if_pos (by omega), w1, if_neg (by omega), if_pos (by omega), if_pos (by omega), rd_nat, if_neg c2]
    · rw [if_neg c1] at h0
      rw [h0 rfl]
      refine Tells.now 0 fun k _ => ?_
      rw [spec_l08Owners.l4, hx, if_pos (by omega), if_pos (by omega), if_pos (by omega), w1, if_pos (by omega)]
theorem rdT_drop (ws : List S49) (i : Nat) (hi : i < ws.length) : ws.drop i = rd_T49 ws (i : Int) :: ws.drop (i + 1) := by
  rw [List.drop_eq_getElem_cons hi]
  congr 1
  simp [rd_T49, List.getD_eq_getElem?_getD, hi]
theorem rdT_mem (ws : List S49) (i : Nat) (hi : i < ws.length) : rd_T49 ws (i : Int) ∈ ws := by
  have : rd_T49 ws (i : Int) = ws[i] := by simp [rd_T49, List.getD_eq_getElem?_getD, hi]
  rw [this]
  exact List.getElem_mem hi
theorem spec_warps (words : List Int) (hn : words.length ≤ 16) (ws : List S49) (hr : Rng ws) (hw : ws.length ≤ 100) (r : List Int × Bool) : ∀ (m i : Nat) (l : List Int), i + m = ws.length → l.length = words.length →
    ((specWarps (pairs (ws.drop i)) i l).1 = true → Tells (fun k => spec_l08Owners.l5 k words.length (specWarps (pairs (ws.drop i)) i l).2 0 words ws) r) → ((specWarps (pairs (ws.drop i)) i l).1 = false → r = ([], false)) →
    Tells (fun k => spec_l08Owners.l3 k words.length l i words ws) r
  | 0, i, l, hm, hl, h1, h0 => by
    rw [List.drop_eq_nil_of_le (by omega)] at h1 h0
    refine (h1 rfl).step 0 fun k _ => ?_
    rw [spec_l08Owners.l3, if_neg (by omega)]
    rfl
  | m + 1, i, l, hm, hl, h1, h0 => by
    have hi : i < ws.length := by omega
    have hx := hr _ (rdT_mem ws i hi)
    rw [rdT_drop ws i hi] at h1 h0
    obtain ⟨x, hxe⟩ : ∃ x, rd_T49 ws (i : Int) = x := ⟨_, rfl⟩
    rw [hxe] at h1 h0 hx
    have hp : pairs (x :: ws.drop (i + 1)) = (x.f5.toNat, x.f6.toNat) :: pairs (ws.drop (i + 1)) := rfl
    rw [hp] at h1 h0
    unfold specWarps at h1 h0
    dsimp only at h1 h0
    have ih := spec_warps words hn ws hr hw r m (i + 1)
    have F := spec_wfill words ws i hi hw x hxe hx r x.f6.toNat 0 l (by omega) (by omega) (fun ht => by
      rw [Nat.add_zero] at ht ⊢
      have hlen := fill_len _ _ _ _ ht
      rw [if_pos ht] at h1 h0
      rw [hl, show (i : Int) + 1 = ((i + 1 : Nat) : Int) by omega]
      exact ih _ (by omega) (by omega) h1 h0) (fun hf => by
      rw [Nat.add_zero] at hf
      rw [if_neg (by rw [hf]; decide)] at h0
      exact h0 rfl)
    rw [hl] at F
    refine F.step 0 fun k _ => ?_
    rw [spec_l08Owners.l3, if_pos (by omega)]
    rfl
/-- What the last test asks of one chunk. -/
def okAt (words l : List Int) (j : Nat) : Prop := ¬ (l.getD j 0 = -1 ∧ (Hw words j = true ∨ Rw words j ≠ 0)) ∧ ¬ (0 ≤ l.getD j 0 ∧ Hw words j = false) ∧ ¬ (l.getD j 0 = -2 ∧ Hw words j = false ∧ Rw words j = 0)
theorem spec_last_step (words : List Int) (hu : U32 words) (hc : AllCtl words) (ws : List S49) (i : Nat) (l : List Int) (hi : i < words.length) (hl : l.length = words.length) (hn : words.length ≤ 16) (k : Nat) (hk : 60 < k) :
    (okAt words l i → spec_l08Owners.l5 (k + 1) words.length l i words ws = spec_l08Owners.l5 k words.length l ((i + 1 : Nat) : Int) words ws) ∧ (¬ okAt words l i → spec_l08Owners.l5 (k + 1) words.length l i words ws = some ([], false)) := by
  have hx := u32_at hu hi
  have hs := ctl_states hx (hc i hi)
  have e3 : (ctlRead (rd words (i : Int))).1 = 3 ↔ Hw words i = true := by rw [hs.1]; unfold Hw; simp
  have e2 : (ctlRead (rd words (i : Int))).1 = 2 ↔ Rw words i ≠ 0 := by rw [hs.2.1]; unfold Rw; omega
  have w1 : wrap64 ((i : Int) + 1) = ((i + 1 : Nat) : Int) := by rw [w64 (by omega) (by omega)]; omega
  have hH : Hw words i = false ↔ ¬ (ctlRead (rd words (i : Int))).1 = 3 := by rw [e3]; simp
  have hR : Rw words i = 0 ↔ ¬ (ctlRead (rd words (i : Int))).1 = 2 := by rw [e2]; omega
  unfold okAt
  rw [← e3, ← e2, hH, hR]
  rw [spec_l08Owners.l5, if_pos (by omega), if_pos (by omega), if_pos (by omega), spec_ctlRead _ hx.1 hx.2 k (by omega), Option.bind_some, if_pos (by omega), rd_nat l, w1]
  generalize l.getD i 0 = v
  generalize (ctlRead (rd words (i : Int))).1 = s
  constructor
  · intro h
    (repeat' split) <;> first | rfl | (exfalso; omega)
  · intro h
    (repeat' split) <;> first | rfl | (exfalso; omega)
theorem spec_last (words : List Int) (hu : U32 words) (hc : AllCtl words) (ws : List S49) (l : List Int) (hl : l.length = words.length) (hn : words.length ≤ 16) : ∀ (m i : Nat), i + m = words.length →
    ((∀ j, i ≤ j → j < words.length → okAt words l j) → Tells (fun k => spec_l08Owners.l5 k words.length l i words ws) (l, true)) ∧ ((¬ ∀ j, i ≤ j → j < words.length → okAt words l j) → Tells (fun k => spec_l08Owners.l5 k words.length l i words ws) ([], false))
  | 0, i, hm => by
    refine ⟨fun _ => Tells.now 0 fun k _ => ?_, fun h => absurd (fun j h1 h2 => absurd h2 (by omega)) h⟩
    rw [spec_l08Owners.l5, if_neg (by omega)]
  | m + 1, i, hm => by
    have hi : i < words.length := by omega
    have ih := spec_last words hu hc ws l hl hn m (i + 1) (by omega)
    have st := spec_last_step words hu hc ws i l hi hl hn
    constructor
    · intro h
      exact (ih.1 (fun j h1 h2 => h j (by omega) h2)).step 61 fun k hk => (st k (by omega)).1 (h i (Nat.le_refl _) hi)
    · intro h
      by_cases c : okAt words l i
      · exact (ih.2 (fun k => h (fun j h1 h2 => by
          by_cases e : j = i
          · subst e; exact c
          · exact k j (by omega) h2))).step 61 fun k hk => (st k (by omega)).1 c
      · exact Tells.now 61 fun k hk => (st k (by omega)).2 c
theorem spec_start (words : List Int) (ws : List S49) (r : List Int × Bool) (n : Nat) (hn : n ≤ 16) (h : Tells (fun k => spec_l08Owners.l1 k n (List.replicate n (-1)) 0 words ws) r) : ∀ (d i : Nat), i + d = n → Tells (fun k => spec_l08Owners.l0 k n (List.replicate i (-1)) i words ws) r
  | 0, i, hd => by
    obtain rfl : i = n := by omega
    refine h.step 0 fun k _ => ?_
    rw [spec_l08Owners.l0, if_neg (by omega)]
  | d + 1, i, hd => by
    refine (spec_start words ws r n hn h d (i + 1) (by omega)).step 0 fun k _ => ?_
    rw [spec_l08Owners.l0, if_pos (by omega), if_pos (by rw [List.length_replicate]; omega), w64 (by omega) (by omega), List.replicate_succ']
    rfl
/-- Both functions, on a memory and warps that are valid each by itself. -/
theorem owners_both (words : List Int) (hu : U32 words) (hc : AllCtl words) (hn : words.length ≤ 16) (ws : List S49) (hr : Rng ws) (hw : ws.length ≤ 100) : ∃ r : List Int × Bool, ownersM words ws = some r ∧ Tells (fun k => spec_l08Owners.f k words ws) r := by
  have hH := heads_link words hu hc words.length 0 (List.replicate words.length (-1)) (by omega) (by simp)
  rw [List.drop_zero] at hH
  have hRH : ∀ i, i < words.length → Rw words i ≠ 0 → Hw words i = false := fun i hi h => rw_held hu hc hi h
  -- beyond the memory no chunk begins a block
  have hHR : ∀ i, Rw words i ≠ 0 → Hw words i = false := by
    intro i h
    by_cases hi : i < words.length
    · exact hRH i hi h
    · exfalso
      apply h
      unfold Rw
      rw [rd_nat, List.getD_eq_getElem?_getD, List.getElem?_eq_none (by omega)]
      decide
  unfold ownersM
  rw [hH, Option.bind_some]
  have start : ∀ r, Tells (fun k => spec_l08Owners.l1 k words.length (List.replicate words.length (-1)) 0 words ws) r → Tells (fun k => spec_l08Owners.f k words ws) r := fun r h => spec_start words ws r words.length hn h words.length 0 (by omega)
  have lastE : ∀ l : List Int, l.length = words.length → (Last (Hw words) (Rw words) l ↔ ∀ j, 0 ≤ j → j < words.length → okAt words l j) := fun l hl => ⟨fun h j _ h2 => h j (by omega), fun h j h2 => h j (Nat.zero_le _) (by omega)⟩
  -- the reference's answer
  have spec : ∀ r, ((specHeads (Rw words) words.length 0 (List.replicate words.length (-1))).1 = true → (specWarps (pairs ws) 0 (specHeads (Rw words) words.length 0 (List.replicate words.length (-1))).2).1 = true → (Last (Hw words) (Rw words) (specWarps (pairs ws) 0 (specHeads (Rw words) words.length 0 (List.replicate words.length (-1))).2).2 → r = ((specWarps (pairs ws) 0 (specHeads (Rw words) words.length 0 (List.replicate words.length (-1))).2).2, true)) ∧ (¬ Last (Hw words) (Rw words) (specWarps (pairs ws) 0 (specHeads (Rw words) words.length 0 (List.replicate words.length (-1))).2).2 → r = ([], false))) →
      (¬ ((specHeads (Rw words) words.length 0 (List.replicate words.length (-1))).1 = true ∧ (specWarps (pairs ws) 0 (specHeads (Rw words) words.length 0 (List.replicate words.length (-1))).2).1 = true) → r = ([], false)) → Tells (fun k => spec_l08Owners.f k words ws) r := by
    intro r h1 h0
    refine start r (spec_heads words hu hc hn ws r words.length 0 _ (by omega) (by simp) (fun ha => ?_) (fun ha => h0 (fun k => by rw [ha] at k; cases k.1)))
    have l1 := (spec_free (Rw words) words.length 0 _ _ (Prod.ext ha rfl)).1
    rw [List.length_replicate] at l1
    refine spec_warps words hn ws hr hw r ws.length 0 _ (by omega) l1 (fun hb => ?_) (fun hb => h0 (fun k => by rw [List.drop_zero] at hb; rw [hb] at k; cases k.2))
    rw [List.drop_zero] at hb ⊢
    have l2 := (spec_keep (pairs ws) 0 _ _ (Prod.ext hb rfl)).1
    have L := spec_last words hu hc ws _ (l2.trans l1) hn words.length 0 (by omega)
    have q := h1 ha hb
    by_cases c : Last (Hw words) (Rw words) (specWarps (pairs ws) 0 (specHeads (Rw words) words.length 0 (List.replicate words.length (-1))).2).2
    · rw [q.1 c]
      exact L.1 ((lastE _ (l2.trans l1)).1 c)
    · rw [q.2 c]
      exact L.2 (fun k => c ((lastE _ (l2.trans l1)).2 k))
  -- the program's
  by_cases ok : (specHeads (Rw words) words.length 0 (List.replicate words.length (-1))).1 = true ∧ (specWarps (pairs ws) 0 (specHeads (Rw words) words.length 0 (List.replicate words.length (-1))).2).1 = true ∧ Last (Hw words) (Rw words) (specWarps (pairs ws) 0 (specHeads (Rw words) words.length 0 (List.replicate words.length (-1))).2).2
  · obtain ⟨ha, hb, hL⟩ := ok
    have T := owners_from (n := words.length) (by simp) (Prod.ext ha rfl) (Prod.ext hb rfl) hL
    have l1 := (spec_free (Rw words) words.length 0 _ _ (Prod.ext ha rfl)).1
    rw [List.length_replicate] at l1
    refine ⟨_, ?_, spec _ (fun _ _ => ⟨fun _ => rfl, fun h => absurd hL h⟩) (fun h => absurd ⟨ha, hb⟩ h)⟩
    rw [T.1, if_pos rfl, warps_link words ws 0 _ hr l1, Option.bind_some, T.2.1, if_pos rfl]
    have hfree := (free_link words words.length 0 (specWarps (pairs ws) 0 (specHeads (Rw words) words.length 0 (List.replicate words.length (-1))).2).2 (by omega)).2 (fun j _ h2 => T.2.2 j h2)
    rw [List.drop_zero] at hfree
    rw [hfree]
    rfl
  · refine ⟨([], false), ?_, spec _ (fun ha hb => ⟨fun hL => absurd ⟨ha, hb, hL⟩ ok, fun _ => rfl⟩) (fun _ => rfl)⟩
    by_cases ia : (implHeads (Hw words) (Rw words) words.length 0 (List.replicate words.length (-1))).1 = true
    · rw [if_pos ia]
      have hh := heads_to (Hw words) (Rw words) hHR words.length 0 _ _ (Prod.ext ia rfl) (by simp) (fun j hj hl => absurd (by rw [List.length_replicate] at hl; rw [List.getD_eq_getElem?_getD, List.getElem?_replicate, if_pos hl]; rfl) hj)
      have l1 := hh.2.1
      rw [List.length_replicate] at l1
      rw [warps_link words ws 0 _ hr l1, Option.bind_some]
      by_cases ib : (implWarps (Hw words) (pairs ws) 0 (implHeads (Hw words) (Rw words) words.length 0 (List.replicate words.length (-1))).2).1 = true
      · rw [if_pos ib]
        cases hf : freeL words 0 (implWarps (Hw words) (pairs ws) 0 (implHeads (Hw words) (Rw words) words.length 0 (List.replicate words.length (-1))).2).2
        · rfl
        · exfalso
          have hfree := (free_link words words.length 0 (implWarps (Hw words) (pairs ws) 0 (implHeads (Hw words) (Rw words) words.length 0 (List.replicate words.length (-1))).2).2 (by omega)).1 (by rw [List.drop_zero]; exact hf)
          have T := owners_to hHR rfl (Prod.ext ia rfl) (Prod.ext ib rfl) (fun j hj => hfree j (Nat.zero_le _) hj)
          refine ok ⟨by rw [T.1], by rw [T.1]; rw [T.2.1], ?_⟩
          have e1 : (specHeads (Rw words) words.length 0 (List.replicate words.length (-1))).2 = (implHeads (Hw words) (Rw words) words.length 0 (List.replicate words.length (-1))).2 := by rw [T.1]
          have e2 : (specWarps (pairs ws) 0 (implHeads (Hw words) (Rw words) words.length 0 (List.replicate words.length (-1))).2).2 = (implWarps (Hw words) (pairs ws) 0 (implHeads (Hw words) (Rw words) words.length 0 (List.replicate words.length (-1))).2).2 := by rw [T.2.1]
          rw [e1, e2]
          exact T.2.2
      · rw [if_neg ib]
    · rw [if_neg ia]
end Go.Proofs.YtobboonnfocalaaGreatDoor.Own
