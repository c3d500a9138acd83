/- A warp's validity: the program's and the reference's come to one plain predicate. Conditions: none. -/
import Derived.Test.YtobboonnfocalaaGreatDoorMaskPureG1
import Derived.Test.YtobboonnfocalaaGreatDoorReqPureG1
import Derived.Test.YtobboonnfocalaaGreatDoorRelPureG1
import Derived.Test.YtobboonnfocalaaGreatDoorOnesPureG1
import Derived.Test.YtobboonnfocalaaGreatDoorPG1x4
import Derived.Test.YtobboonnfocalaaGreatDoorPG1x5
import Derived.Test.YtobboonnfocalaaGreatDoorPG1x6
import Derived.Test.YtobboonnfocalaaGreatDoorPG1x0
import Derived.Test.YtobboonnfocalaaGreatDoorPG1x1
set_option linter.unusedVariables false
set_option linter.unusedSimpArgs false
namespace Go.Proofs.YtobboonnfocalaaGreatDoor.Base
open Go.RowKit Go.Proofs.YtobboonnfocalaaGreatDoor.PG1 Go.Proofs.YtobboonnfocalaaGreatDoorW.PrintWords Go.Proofs.YtobboonnfocalaaGreatDoorW.PrintLast Go.Proofs.YtobboonnfocalaaGreatDoorW.PrintMore

theorem beq_dec (a b : Int) : (a == b) = decide (a = b) := rfl
/-- What starts at an offset of a chunk can be given back. -/
def gives (x off : Int) : Bool := (release x off).2.2 || ((ctlRead x).2.2.2.2 && (decide ((ctlRead x).1 = 2) && decide (off = 0)))
theorem spec_gives (x off : Int) (h0 : 0 ≤ x) (h1 : x ≤ 4294967295) (k : Nat) (hk : 100 < k) : spec_l07Gives.f k x off = some (gives x off) := by
  unfold spec_l07Gives.f gives
  rw [spec_release x off h0 h1 k hk, spec_ctlRead x h0 h1 k (by omega)]
  simp only [Option.bind_some]
  cases (release x off).2.2 <;> cases (ctlRead x).2.2.2.2 <;> simp
  by_cases c : (ctlRead x).1 = 2 <;> simp [c, beq_dec]
theorem impl_gives (x off : Int) (h0 : 0 ≤ x) (h1 : x ≤ 4294967295) (k : Nat) (hk : 1 < k) : impl_mayGive.f k x off = some (gives x off) := by
  have hm := ctlRead_map x
  have hc := ctlRead_class x
  unfold impl_mayGive.f gives release
  rw [impl_ctlRead x h0 h1 _ hk, Option.bind_some]
  generalize ctlRead x = r at hm hc ⊢
  obtain ⟨a, b, m, d, ok⟩ := r
  dsimp only at hm hc ⊢
  obtain ⟨m, rfl⟩ := Int.eq_ofNat_of_zero_le hm.1
  rw [Int.toNat_natCast]
  by_cases c0 : ok = true
  · rw [if_pos c0]
    subst c0
    unfold impl_startsBlock.f
    by_cases c1 : a = 1
    · subst c1
      rw [if_pos rfl, if_pos (show true = true ∧ (1 : Int) = 1 from ⟨rfl, rfl⟩), within_ctl, Option.bind_some]
      unfold relOf
      by_cases c2 : 0 ≤ off ∧ off ≤ 15
      · obtain ⟨n, hn, hn16⟩ := quot (b := b) c2
        rw [decide_eq_true c2, if_pos rfl, if_pos hc.1, shr_sz hc, hn, shl_sz hc (by omega), Int.toNat_natCast]
        by_cases c3 : (n : Int) * sz b = off
        · rw [if_pos c3, if_pos (by omega), bit_at (by omega) hn16]
          by_cases c4 : m / 2 ^ n % 2 = 1
          · rw [if_pos (show (0 ≤ off ∧ off ≤ 15) ∧ (n : Int) * sz b = off ∧ m / 2 ^ n % 2 = 1 from ⟨c2, c3, c4⟩), c4]
            simp
          · rw [if_neg (show ¬ ((0 ≤ off ∧ off ≤ 15) ∧ (n : Int) * sz b = off ∧ m / 2 ^ n % 2 = 1) from fun h => c4 h.2.2), show m / 2 ^ n % 2 = 0 by omega]
            simp
        · rw [if_neg c3, if_neg (show ¬ ((0 ≤ off ∧ off ≤ 15) ∧ (n : Int) * sz b = off ∧ m / 2 ^ n % 2 = 1) from fun h => c3 h.2.1)]
          simp
      · rw [decide_eq_false c2, if_neg (by simp), if_neg (show ¬ ((0 ≤ off ∧ off ≤ 15) ∧ off / sz b * sz b = off ∧ m / 2 ^ (off / sz b).toNat % 2 = 1) from fun h => c2 h.1)]
        simp
    · rw [if_neg c1, if_neg (show ¬ (true = true ∧ a = 1) from fun h => c1 h.2)]
      by_cases c5 : a = 2 <;> simp [c5]
      by_cases c6 : off = 0 <;> simp [c6]
  · rw [if_neg c0, if_neg (show ¬ (ok = true ∧ a = 1) from fun h => c0 h.1)]
    replace c0 := Bool.eq_false_iff.mpr c0
    subst c0
    simp

/-- A fact that holds with some fuel holds with more. -/
theorem up {α : Type} {f : Nat → Option α} (hm : ∀ k, LeO (f k) (f (k + 1))) {k0 : Nat} {r : α} (h : f k0 = some r) : ∀ k, k0 ≤ k → f k = some r := by
  intro k hk
  obtain ⟨d, rfl⟩ : ∃ d, k = k0 + d := ⟨k - k0, by omega⟩
  induction d with
  | zero => exact h
  | succ d ih => exact hm (k0 + d) r (ih (by omega))
def cls (v : Int) : Int := if v = 1 then 0 else if v = 2 then 1 else if v ≤ 4 then 2 else if v ≤ 8 then 3 else 4
theorem impl_cls_all : ∀ n : Fin 16, impl_ClassOf.f 20 ((n.val : Int) + 1) = some (cls ((n.val : Int) + 1)) := by decide +kernel
theorem spec_cls_all : ∀ n : Fin 16, spec_ClassOf.f 40 ((n.val : Int) + 1) = some (cls ((n.val : Int) + 1)) := by decide +kernel
theorem impl_cls {v : Int} (h : 1 ≤ v ∧ v ≤ 16) (k : Nat) (hk : 20 ≤ k) : impl_ClassOf.f k v = some (cls v) := by
  have h0 := impl_cls_all ⟨(v - 1).toNat, by omega⟩
  rw [show (((v - 1).toNat : Nat) : Int) + 1 = v by omega] at h0
  exact up (f := fun k => impl_ClassOf.f k v) (fun k => impl_ClassOf.mono v k) h0 k hk
theorem spec_cls {v : Int} (h : 1 ≤ v ∧ v ≤ 16) (k : Nat) (hk : 40 ≤ k) : spec_ClassOf.f k v = some (cls v) := by
  have h0 := spec_cls_all ⟨(v - 1).toNat, by omega⟩
  rw [show (((v - 1).toNat : Nat) : Int) + 1 = v by omega] at h0
  exact up (f := fun k => spec_ClassOf.f k v) (fun k => spec_ClassOf.mono v k) h0 k hk
def chunksFor (v : Int) : Int := if v ≤ 16 then 0 else if v > 256 then 0 else (v + 15) / 16
theorem impl_chunks {v : Int} (h : -9223372036854775808 ≤ v ∧ v ≤ 9223372036854775807) : impl_ChunksFor.f v = some (chunksFor v) := by
  unfold impl_ChunksFor.f chunksFor
  rw [within_ctl, Option.bind_some]
  by_cases c1 : v ≤ 16
  · rw [if_pos c1, decide_eq_false (by omega)]; rfl
  · by_cases c2 : v > 256
    · rw [if_neg c1, if_pos c2, decide_eq_false (by omega)]; rfl
    · rw [if_neg c1, if_neg c2, decide_eq_true (by omega), if_pos rfl, w64 (n := v + 16) (by omega) (by omega), w64 (n := v + 16 - 1) (by omega) (by omega), Int.tdiv_eq_ediv_of_nonneg (by omega), w64 (by omega) (by omega)]
      rw [show v + 16 - 1 = v + 15 by omega]
theorem spec_chunks {v : Int} (h : -9223372036854775808 ≤ v ∧ v ≤ 9223372036854775807) : spec_ChunksFor.f v = some (chunksFor v) := by
  unfold spec_ChunksFor.f chunksFor
  by_cases c1 : v ≤ 16
  · rw [if_pos c1, if_pos c1]
  · by_cases c2 : v > 256
    · rw [if_neg c1, if_pos c2, if_neg c1, if_pos c2]
    · rw [if_neg c1, if_neg c2, if_neg c1, if_neg c2, w64 (n := v + 16) (by omega) (by omega), w64 (n := v + 16 - 1) (by omega) (by omega), Int.tdiv_eq_ediv_of_nonneg (by omega), w64 (by omega) (by omega)]
      rw [show v + 16 - 1 = v + 15 by omega]
theorem chunksFor_range (v : Int) : 0 ≤ chunksFor v ∧ chunksFor v ≤ 16 := by
  unfold chunksFor
  (repeat' split) <;> omega

/-- The three ways of a warp that is not idle: it gives back, takes a small block, takes a large one. -/
def giving (v ph pr he seen ch : Int) (g : Bool) : Bool :=
  if ph = 0 then decide (pr = 0 ∧ he = 0 ∧ seen = 0) else if ph = 1 then decide (pr = 0 ∧ he = 0 ∧ v < 16 * ch) && g else if ph = 2 then decide (1 ≤ he ∧ pr + he ≤ ch ∧ seen = 0) else false
def small (ph pr he seen ch room : Int) : Bool :=
  if he = 0 ∧ pr ≤ ch then (if ph = 0 then decide (seen = 0) else if ph = 1 then decide (pr < ch ∧ 0 < room) else false) else false
def large (r ph pr he seen ch : Int) : Bool :=
  if (0 ≤ ph ∧ ph ≤ 3) ∧ pr ≤ ch ∧ (0 ≤ he ∧ he ≤ r) ∧ seen = 0 then (if (0 < he ∨ ph = 1) ∧ ch < pr + r then false else if ph = 2 then decide (0 < he) else if ph = 3 then decide (he = r) else decide (he < r)) else false
def bodyOk (c v ph pr he seen ch : Int) : Bool :=
  if c = 2 then giving v ph pr he seen ch (gives seen (v % 16)) else if v ≤ 16 then small ph pr he seen ch (room seen (cls v)) else large (chunksFor v) ph pr he seen ch
def W (n : Int) : Prop := -9223372036854775808 ≤ n ∧ n ≤ 9223372036854775807
theorem and3 (a b c : Int) : (if a = 0 then (if b = 0 then some (c == 0) else some false) else some false) = some (decide (a = 0 ∧ b = 0 ∧ c = 0)) := by
  by_cases h1 : a = 0 <;> by_cases h2 : b = 0 <;> simp [h1, h2, beq_dec]

theorem impl_giving (c : Int) (vals got : List Int) (t v ph pr he seen ch : Int) (hlead : impl_Warp_lead.f c vals got t ph pr he seen = some v) (hv : 0 ≤ v ∧ v ≤ 4095) (hch : 0 ≤ ch ∧ ch ≤ 16) (hpr : 0 ≤ pr ∧ pr ≤ 9223372036854775807) (hhe : W he)
    (hs : 0 ≤ seen ∧ seen ≤ 4294967295) (k : Nat) (hk : 1 < k) : impl_isGiving.f k c vals got t ph pr he seen ch = some (giving v ph pr he seen ch (gives seen (v % 16))) := by
  have hg := impl_gives seen (v % 16) hs.1 hs.2 k hk
  have hw : wrap64 (16 * ch) = 16 * ch := w64 (by omega) (by omega)
  have hw2 : 1 ≤ he ∧ he ≤ ch → wrap64 (ch - he) = ch - he := fun h => w64 (by omega) (by omega)
  have ht : Int.tmod v 16 = v % 16 := Int.tmod_eq_emod_of_nonneg hv.1
  unfold W at hhe
  unfold impl_isGiving.f giving
  by_cases c0 : ph = 0
  · rw [if_pos c0, if_pos c0, and3]
  · rw [if_neg c0, if_neg c0]
    by_cases c1 : ph = 1
    · rw [if_pos c1, if_pos c1]
      by_cases h1 : pr = 0
      · by_cases h2 : he = 0
        · rw [if_pos h1, if_pos h2, hlead, Option.bind_some, hw]
          by_cases h3 : v < 16 * ch
          · rw [if_pos h3, Option.bind_some, ht, hg, Option.bind_some, decide_eq_true ⟨h1, h2, h3⟩, Bool.true_and]
          · rw [if_neg h3, decide_eq_false (fun h => h3 h.2.2), Bool.false_and]
        · rw [if_pos h1, if_neg h2, decide_eq_false (fun h => h2 h.2.1), Bool.false_and]
      · rw [if_neg h1, decide_eq_false (fun h => h1 h.1), Bool.false_and]
    · rw [if_neg c1, if_neg c1]
      by_cases c2 : ph = 2
      · rw [if_pos c2, if_pos c2, within_ctl, Option.bind_some]
        by_cases c3 : 1 ≤ he ∧ he ≤ ch
        · rw [decide_eq_true c3, if_pos rfl, hw2 c3]
          by_cases c4 : pr ≤ ch - he
          · rw [if_pos c4, beq_dec, show decide (seen = 0) = decide (1 ≤ he ∧ pr + he ≤ ch ∧ seen = 0) from decide_eq_decide.2 (by omega)]
          · rw [if_neg c4, decide_eq_false (by omega)]
        · rw [decide_eq_false c3, if_neg Bool.false_ne_true, decide_eq_false (by omega)]
      · rw [if_neg c2, if_neg c2]
theorem impl_small (c : Int) (vals got : List Int) (t v ph pr he seen ch : Int) (hlead : impl_Warp_lead.f c vals got t ph pr he seen = some v) (hv : 1 ≤ v ∧ v ≤ 16) (hs : 0 ≤ seen ∧ seen ≤ 4294967295) (k : Nat) (hk : 30 < k) :
    impl_isTakingSmall.f k c vals got t ph pr he seen ch = some (small ph pr he seen ch (room seen (cls v))) := by
  obtain ⟨k, rfl⟩ : ∃ m, k = m + 1 := ⟨k - 1, by omega⟩
  have hc := impl_cls hv k (by omega)
  have hr := impl_room seen (cls v) hs.1 hs.2 k (by omega)
  unfold impl_isTakingSmall.f small
  by_cases h1 : he = 0
  · by_cases h2 : pr ≤ ch
    · rw [if_pos h1, decide_eq_false (show ¬ pr > ch by omega), if_pos (show he = 0 ∧ pr ≤ ch from ⟨h1, h2⟩), impl_isTakingSmall.j0, if_neg Bool.false_ne_true]
      by_cases h3 : ph = 0
      · rw [if_pos h3, if_pos h3, beq_dec]
      · rw [if_neg h3, if_neg h3]
        by_cases h4 : ph = 1
        · rw [if_pos h4, if_pos h4]
          by_cases h5 : pr < ch
          · rw [if_pos h5, hlead, Option.bind_some, hc, Option.bind_some, hr, Option.bind_some, show decide (room seen (cls v) > 0) = decide (pr < ch ∧ 0 < room seen (cls v)) from decide_eq_decide.2 (by omega)]
          · rw [if_neg h5, decide_eq_false (fun h => h5 h.1)]
        · rw [if_neg h4, if_neg h4]
    · rw [if_pos h1, decide_eq_true (show pr > ch by omega), if_neg (show ¬ (he = 0 ∧ pr ≤ ch) from fun h => h2 h.2), impl_isTakingSmall.j0, if_pos rfl]
  · rw [if_neg h1, if_neg (show ¬ (he = 0 ∧ pr ≤ ch) from fun h => h1 h.1), impl_isTakingSmall.j0, if_pos rfl]
theorem large_j1 (k : Nat) (r : Int) (b : Bool) (c : Int) (vals got : List Int) (t ph pr he seen : Int) :
    impl_isTakingLarge.j1 (k + 1) r b c vals got t ph pr he seen = some (if b = true then false else if ph = 2 then decide (0 < he) else if ph = 3 then decide (he = r) else decide (he < r)) := by
  rw [impl_isTakingLarge.j1]
  cases b
  · rw [if_neg Bool.false_ne_true, if_neg Bool.false_ne_true]
    by_cases z2 : ph = 2
    · rw [if_pos z2, if_pos z2]
    · by_cases z3 : ph = 3
      · rw [if_neg z2, if_neg z2, if_pos z3, if_pos z3]; rfl
      · rw [if_neg z2, if_neg z2, if_neg z3, if_neg z3]
  · rw [if_pos rfl, if_pos rfl]
theorem impl_large (c : Int) (vals got : List Int) (t v ph pr he seen ch : Int) (hlead : impl_Warp_lead.f c vals got t ph pr he seen = some v) (hv : W v) (hch : 0 ≤ ch ∧ ch ≤ 16) (hpr : 0 ≤ pr ∧ pr ≤ 9223372036854775807) (hhe : W he)
    (k : Nat) (hk : 30 < k) : impl_isTakingLarge.f k c vals got t ph pr he seen ch = some (large (chunksFor v) ph pr he seen ch) := by
  obtain ⟨k, rfl⟩ : ∃ m, k = m + 2 := ⟨k - 2, by omega⟩
  have hr := chunksFor_range v
  have hch' := impl_chunks hv
  unfold impl_isTakingLarge.f large
  rw [hlead, Option.bind_some, hch', Option.bind_some, within_ctl, Option.bind_some]
  clear hch'
  generalize chunksFor v = r at hr ⊢
  by_cases c0 : 0 ≤ ph ∧ ph ≤ 3
  · rw [decide_eq_true c0, if_pos rfl]
    by_cases c1 : pr > ch
    · rw [if_pos c1, if_neg (show ¬ ((0 ≤ ph ∧ ph ≤ 3) ∧ pr ≤ ch ∧ (0 ≤ he ∧ he ≤ r) ∧ seen = 0) from fun h => by omega), impl_isTakingLarge.j0, if_pos rfl]
    · rw [if_neg c1, within_ctl, Option.bind_some]
      by_cases c2 : 0 ≤ he ∧ he ≤ r
      · rw [decide_eq_true c2, if_pos rfl, impl_isTakingLarge.j0]
        by_cases c3 : seen = 0
        · have hw : wrap64 (pr + r) = pr + r := w64 (by omega) (by omega)
          rw [show (seen != 0) = false by simp [c3], if_neg Bool.false_ne_true, if_pos (show (0 ≤ ph ∧ ph ≤ 3) ∧ pr ≤ ch ∧ (0 ≤ he ∧ he ≤ r) ∧ seen = 0 from ⟨c0, by omega, c2, c3⟩), hw]
          by_cases c4 : he > 0
          · rw [if_pos c4, large_j1]
            by_cases c5 : ch < pr + r
            · rw [decide_eq_true (show pr + r > ch from c5), if_pos rfl, if_pos (show (0 < he ∨ ph = 1) ∧ ch < pr + r from ⟨Or.inl c4, c5⟩)]
            · rw [decide_eq_false (show ¬ pr + r > ch from c5), if_neg Bool.false_ne_true, if_neg (show ¬ ((0 < he ∨ ph = 1) ∧ ch < pr + r) from fun h => c5 h.2)]
          · rw [if_neg c4]
            by_cases c6 : ph = 1
            · rw [if_pos c6, large_j1]
              by_cases c5 : ch < pr + r
              · rw [decide_eq_true (show pr + r > ch from c5), if_pos rfl, if_pos (show (0 < he ∨ ph = 1) ∧ ch < pr + r from ⟨Or.inr c6, c5⟩)]
              · rw [decide_eq_false (show ¬ pr + r > ch from c5), if_neg Bool.false_ne_true, if_neg (show ¬ ((0 < he ∨ ph = 1) ∧ ch < pr + r) from fun h => c5 h.2)]
            · rw [if_neg c6, large_j1, if_neg Bool.false_ne_true, if_neg (show ¬ ((0 < he ∨ ph = 1) ∧ ch < pr + r) from fun h => by omega)]
        · rw [show (seen != 0) = true by simp [c3], if_pos rfl, if_neg (show ¬ ((0 ≤ ph ∧ ph ≤ 3) ∧ pr ≤ ch ∧ (0 ≤ he ∧ he ≤ r) ∧ seen = 0) from fun h => c3 h.2.2.2)]
      · rw [decide_eq_false c2, if_neg Bool.false_ne_true, if_neg (show ¬ ((0 ≤ ph ∧ ph ≤ 3) ∧ pr ≤ ch ∧ (0 ≤ he ∧ he ≤ r) ∧ seen = 0) from fun h => c2 h.2.2.1), impl_isTakingLarge.j0, if_pos rfl]
  · rw [decide_eq_false c0, if_neg Bool.false_ne_true, if_neg (show ¬ ((0 ≤ ph ∧ ph ≤ 3) ∧ pr ≤ ch ∧ (0 ≤ he ∧ he ≤ r) ∧ seen = 0) from fun h => c0 h.1), impl_isTakingLarge.j0, if_pos rfl]

/-- The warp's validity. -/
def allAsk (c : Int) (vals : List Int) (t : Int) : Prop := ∀ b ∈ bitList t.toNat, b ∈ ons 0 (askBits c vals)
instance (c : Int) (vals : List Int) (t : Int) : Decidable (allAsk c vals t) := by unfold allAsk; infer_instance
def leadOf (vals : List Int) (t : Int) : Int := rd vals (Lib.ctz 32 t.toNat : Int)
def warpOk (c : Int) (vals got : List Int) (t ph pr he seen ch : Int) : Bool :=
  if (0 ≤ ch ∧ ch ≤ 16) ∧ vals.length = 8 ∧ got.length = 8 ∧ t < 256 then
    if c = 0 then decide (t = 0 ∧ ph = 0 ∧ pr = 0 ∧ he = 0 ∧ seen = 0)
    else if reqOk c vals = true ∧ t ≠ 0 ∧ allAsk c vals t ∧ 0 ≤ pr then bodyOk c (leadOf vals t) ph pr he seen ch else false
  else false
/-- What the lead of a valid request is. -/
theorem lead_facts {c : Int} {vals : List Int} {t : Int} (hl : vals.length = 8) (hq : reqOk c vals = true) (h0 : t ≠ 0) (ht : 0 ≤ t ∧ t ≤ 4294967295) (ha : allAsk c vals t) :
    ∃ j : Nat, Lib.ctz 32 t.toNat = j ∧ j < 8 ∧ (c = 1 ∧ 1 ≤ leadOf vals t ∧ leadOf vals t ≤ 256 ∨ c = 2 ∧ 0 ≤ leadOf vals t ∧ leadOf vals t ≤ 4095) := by
  obtain ⟨l, hb⟩ := bitList_first (x := t.toNat) (by omega) (by omega)
  have h1 := ha _ (by rw [hb]; exact List.mem_cons_self)
  obtain ⟨j, hj, hg, he⟩ := (mem_ons _ 0 _).1 h1
  rw [askBits_length, hl] at hj
  rw [askBits_get c vals j (by omega)] at hg
  have hc : Lib.ctz 32 t.toNat = j := by omega
  refine ⟨j, hc, hj, ?_⟩
  have hlead : leadOf vals t = vals[j] := by unfold leadOf; rw [hc, rdG vals j (by omega)]
  have hv : vals.getD j 0 = vals[j] := by rw [← rd_nat, rdG vals j (by omega)]
  have hask : askB c vals[j] = true := by
    rw [hv] at hg
    by_cases z : askB c vals[j] = true
    · exact z
    · rw [if_neg z] at hg; omega
  have hm : vals[j] ∈ vals := List.getElem_mem _
  rw [hlead]
  unfold reqOk at hq
  unfold askB at hask
  simp only [Bool.and_eq_true, Bool.or_eq_true, decide_eq_true_eq, List.all_eq_true] at hq hask
  obtain ⟨_, ⟨q1, q2⟩ | ⟨q1, q2⟩⟩ := hq
  · have := q2 _ hm
    left
    omega
  · have := q2 _ hm
    right
    omega
theorem impl_lead {c : Int} {vals got : List Int} {t ph pr he seen : Int} (hl : vals.length = 8) (hq : reqOk c vals = true) (h0 : t ≠ 0) (ht : 0 ≤ t ∧ t ≤ 4294967295) (ha : allAsk c vals t) :
    impl_Warp_lead.f c vals got t ph pr he seen = some (leadOf vals t) := by
  obtain ⟨j, hc, hj, _⟩ := lead_facts hl hq h0 ht ha
  have h1 := impl_lowest (x := t.toNat) (by omega) (by omega)
  rw [show ((t.toNat : Nat) : Int) = t by omega] at h1
  unfold impl_Warp_lead.f leadOf
  rw [h1, Option.bind_some, if_pos (by omega), if_pos (by omega)]
theorem asks_iff (c : Int) (vals : List Int) (hl : vals.length = 8) (t : Int) (ht : 0 ≤ t ∧ t ≤ 4294967295) : Go.bits .andNot .u32 t ((mkN (askBits c vals) : Nat) : Int) = 0 ↔ allAsk c vals t := by
  have := asks_all c vals hl t.toNat (by omega)
  rw [show ((t.toNat : Nat) : Int) = t by omega] at this
  exact this
theorem impl_warp (c : Int) (vals got : List Int) (t ph pr he seen ch : Int) (hpr : W pr) (hhe : W he) (hvs : ∀ x ∈ vals, W x) (ht : 0 ≤ t ∧ t ≤ 4294967295) (hs : 0 ≤ seen ∧ seen ≤ 4294967295) (k : Nat) (hk : 40 < k) :
    impl_isWarp.f k c vals got t ph pr he seen ch = some (warpOk c vals got t ph pr he seen ch) := by
  obtain ⟨k, rfl⟩ : ∃ m, k = m + 2 := ⟨k - 2, by omega⟩
  unfold impl_isWarp.f warpOk impl_isMask.f
  have kill : ∀ q : Prop, [Decidable q] → ¬ q → impl_isWarp.j0 (k + 2) ch true c vals got t ph pr he seen = some (if q then (if c = 0 then decide (t = 0 ∧ ph = 0 ∧ pr = 0 ∧ he = 0 ∧ seen = 0) else if reqOk c vals = true ∧ t ≠ 0 ∧ allAsk c vals t ∧ 0 ≤ pr then bodyOk c (leadOf vals t) ph pr he seen ch else false) else false) := by
    intro q _ hq
    rw [if_neg hq, impl_isWarp.j0, if_pos rfl]
  rw [within_ctl, Option.bind_some]
  by_cases c0 : 0 ≤ ch ∧ ch ≤ 16
  · rw [decide_eq_true c0, if_pos rfl]
    by_cases c1 : vals.length = 8
    · rw [if_pos (show (vals.length : Int) = 8 by omega)]
      by_cases c2 : got.length = 8
      · rw [if_pos (show (got.length : Int) = 8 by omega), Option.bind_some]
        by_cases c3 : t < 256
        · rw [decide_eq_true c3, if_pos (show (0 ≤ ch ∧ ch ≤ 16) ∧ vals.length = 8 ∧ got.length = 8 ∧ t < 256 from ⟨c0, c1, c2, c3⟩), Bool.not_true, impl_isWarp.j0, if_neg Bool.false_ne_true]
          by_cases d0 : c = 0
          · rw [if_pos d0, if_pos d0, and3]
            by_cases e1 : t = 0
            · rw [if_pos e1]
              by_cases e2 : ph = 0
              · rw [if_pos e2]
                congr 1
                rw [decide_eq_decide]
                omega
              · rw [if_neg e2, decide_eq_false (fun h => e2 h.2.1)]
            · rw [if_neg e1, decide_eq_false (fun h => e1 h.1)]
          · rw [if_neg d0, if_neg d0, impl_req, Option.bind_some]
            have fail : ∀ q : Prop, [Decidable q] → ¬ q → impl_isWarp.j1 (k + 1) ch true c vals got t ph pr he seen = some (if q then bodyOk c (leadOf vals t) ph pr he seen ch else false) := by
              intro q _ hq
              rw [if_neg hq, impl_isWarp.j1, if_pos rfl]
            by_cases d1 : reqOk c vals = true
            · rw [if_pos d1]
              by_cases d2 : t = 0
              · rw [if_pos d2]
                exact fail _ (fun h => h.2.1 d2)
              · rw [if_neg d2, impl_asks_eq c vals c1 _ (by omega), Option.bind_some]
                by_cases d3 : allAsk c vals t
                · rw [if_pos ((asks_iff c vals c1 t ht).2 d3)]
                  by_cases d4 : pr < 0
                  · rw [decide_eq_true d4]
                    exact fail _ (fun h => by omega)
                  · obtain ⟨j, hj1, hj2, hv⟩ := lead_facts c1 d1 d2 ht d3
                    have hlead := impl_lead (got := got) (ph := ph) (pr := pr) (he := he) (seen := seen) c1 d1 d2 ht d3
                    rw [decide_eq_false d4, impl_isWarp.j1, if_neg Bool.false_ne_true, if_pos (show reqOk c vals = true ∧ t ≠ 0 ∧ allAsk c vals t ∧ 0 ≤ pr from ⟨d1, d2, d3, by omega⟩)]
                    unfold bodyOk
                    unfold W at hpr hhe
                    by_cases d5 : c = 2
                    · rw [if_pos d5, if_pos d5, impl_giving c vals got t _ ph pr he seen ch hlead (by omega) c0 (by omega) hhe hs k (by omega), Option.bind_some]
                    · rw [if_neg d5, if_neg d5]
                      unfold impl_Warp_isSmall.f
                      rw [if_pos (show c = 1 by omega), hlead, Option.bind_some, Option.bind_some]
                      by_cases d6 : leadOf vals t ≤ 16
                      · rw [decide_eq_true d6, if_pos rfl, if_pos d6, impl_small c vals got t _ ph pr he seen ch hlead (by omega) hs k (by omega), Option.bind_some]
                      · rw [decide_eq_false d6, if_neg Bool.false_ne_true, if_neg d6, impl_large c vals got t _ ph pr he seen ch hlead (by unfold W; omega) c0 (by omega) hhe k (by omega), Option.bind_some]
                · rw [if_neg (fun h => d3 ((asks_iff c vals c1 t ht).1 h))]
                  exact fail _ (fun h => d3 h.2.2.1)
            · rw [if_neg d1]
              exact fail _ (fun h => d1 h.1)
        · rw [decide_eq_false c3, Bool.not_false]
          exact kill _ (fun h => c3 h.2.2.2)
      · rw [if_neg (show ¬ (got.length : Int) = 8 by omega)]
        exact kill _ (fun h => c2 h.2.2.1)
    · rw [if_neg (show ¬ (vals.length : Int) = 8 by omega)]
      exact kill _ (fun h => c1 h.2.1)
  · rw [decide_eq_false c0, if_neg Bool.false_ne_true]
    exact kill _ (fun h => c0 h.1)
end Go.Proofs.YtobboonnfocalaaGreatDoor.Base
