/- A machine as an argument of a law: its size, its copy, and that it equals itself. Conditions: none. -/
import Derived.Test.YtobboonnfocalaaGreatDoorMachPureG1
import Derived.Test.YtobboonnfocalaaGreatDoorPG1x3
import Derived.Test.YtobboonnfocalaaGreatDoorPG1x4
import Derived.Test.YtobboonnfocalaaGreatDoorPG1x0
set_option linter.unusedVariables false
set_option linter.unusedSimpArgs false
namespace Go.Proofs.YtobboonnfocalaaGreatDoor.Own
open Go.RowKit Go.Proofs.YtobboonnfocalaaGreatDoor.Base Go.Proofs.YtobboonnfocalaaGreatDoor.PG1 Go.Proofs.YtobboonnfocalaaGreatDoorW.PrintWords Go.Proofs.YtobboonnfocalaaGreatDoorW.PrintLast Go.Proofs.YtobboonnfocalaaGreatDoorW.PrintMore

theorem rd25_mem (ws : List S71) (i : Nat) (hi : i < ws.length) : rd_T71 ws (i : Int) ∈ ws ∧ rd_T71 ws (i : Int) = ws[i] := by
  have : rd_T71 ws (i : Int) = ws[i] := by simp [rd_T71, List.getD_eq_getElem?_getD, hi]
  exact ⟨by rw [this]; exact List.getElem_mem hi, this⟩
/-- The law's size of warps: -1 where they are too large; else each is small. -/
theorem szWarps (aws : List S71) (h64 : aws.length ≤ 1048576) (hl : ∀ x ∈ aws, x.f1.length ≤ 9223372036854775807 ∧ x.f2.length ≤ 9223372036854775807) : ∀ (m i : Nat) (n : Int), i + m = aws.length → 0 ≤ n ∧ n ≤ 1048576 →
    ∃ s, (-1 ≤ s ∧ s ≤ n) ∧ Tells (fun k => laws_szWarpS.l0 k aws n i) s ∧ (0 ≤ s → ∀ j, i ≤ j → j < aws.length → (rd_T71 aws (j : Int)).f1.length + (rd_T71 aws (j : Int)).f2.length ≤ 1048576)
  | 0, i, n, hm, hn => ⟨n, by omega, Tells.now 0 (fun k _ => by rw [laws_szWarpS.l0, if_neg (by omega)]), fun _ j h1 h2 => by omega⟩
  | m + 1, i, n, hm, hn => by
    have hi : i < aws.length := by omega
    have hx := hl _ (rd25_mem aws i hi).1
    have e := szWarp_small (rd_T71 aws (i : Int)).f0 (rd_T71 aws (i : Int)).f1 (rd_T71 aws (i : Int)).f2 (rd_T71 aws (i : Int)).f3 (rd_T71 aws (i : Int)).f4 (rd_T71 aws (i : Int)).f5 (rd_T71 aws (i : Int)).f6 (rd_T71 aws (i : Int)).f7 n hx.1 hx.2 hn
    have w1 : wrap64 ((i : Int) + 1) = ((i + 1 : Nat) : Int) := by rw [w64 (by omega) (by omega)]; omega
    by_cases c : n < ((rd_T71 aws (i : Int)).f1.length : Int) + (rd_T71 aws (i : Int)).f2.length
    · rw [if_pos c] at e
      refine ⟨-1, by omega, Tells.now 0 (fun k _ => ?_), fun h => by omega⟩
      rw [laws_szWarpS.l0, if_pos (by omega), if_pos (by omega), e, Option.bind_some, if_pos (by decide)]
    · rw [if_neg c] at e
      obtain ⟨s, h1, h2, h3⟩ := szWarps aws h64 hl m (i + 1) (n - (rd_T71 aws (i : Int)).f1.length - (rd_T71 aws (i : Int)).f2.length) (by omega) (by omega)
      refine ⟨s, by omega, h2.step 0 (fun k _ => ?_), fun h j q1 q2 => ?_⟩
      · rw [laws_szWarpS.l0, if_pos (by omega), if_pos (by omega), e, Option.bind_some, if_neg (by omega), w1]
      · by_cases z : j = i
        · subst z; omega
        · exact h3 h j (by omega) q2
theorem szMach_tells (words : List Int) (aws : List S71) (h1 : words.length ≤ 9223372036854775807) (h2 : aws.length ≤ 9223372036854775807) (hl : ∀ x ∈ aws, x.f1.length ≤ 9223372036854775807 ∧ x.f2.length ≤ 9223372036854775807) :
    ∃ s, Tells (fun k => laws_szMach.f k words aws 1048576) s ∧ (0 ≤ s → words.length ≤ 1048576 ∧ aws.length ≤ 1048576 ∧ ∀ j, j < aws.length → (rd_T71 aws (j : Int)).f1.length + (rd_T71 aws (j : Int)).f2.length ≤ 1048576) := by
  have w0 : wrap64 (1048576 - (words.length : Int)) = 1048576 - (words.length : Int) := w64 (by omega) (by omega)
  by_cases c : (1048576 : Int) < words.length
  · refine ⟨-1, ⟨0, fun k _ => ?_⟩, fun h => by omega⟩
    show laws_szMach.f k words aws 1048576 = _
    unfold laws_szMach.f laws_szMem.f laws_szUint32S.f
    rw [w0, if_pos (by omega), Option.bind_some, if_pos (by decide), Option.bind_some, if_pos (by decide)]
  · have hm : ∀ k, laws_szMach.f k words aws 1048576 = (laws_szWarpS.f k aws (1048576 - (words.length : Int))).bind fun t => if t < 0 then some (-1) else some t := fun k => by
      unfold laws_szMach.f laws_szMem.f laws_szUint32S.f
      rw [w0, if_neg (by omega), Option.bind_some, if_neg (by omega), Option.bind_some, if_neg (by omega)]
    have w1 : wrap64 (1048576 - (words.length : Int) - (aws.length : Int)) = 1048576 - (words.length : Int) - (aws.length : Int) := w64 (by omega) (by omega)
    by_cases c2 : 1048576 - (words.length : Int) - (aws.length : Int) < 0
    · refine ⟨-1, ⟨0, fun k _ => ?_⟩, fun h => by omega⟩
      show laws_szMach.f k words aws 1048576 = _
      rw [hm]
      unfold laws_szWarpS.f
      rw [w1, if_pos c2, Option.bind_some, if_pos (by decide)]
    · obtain ⟨s, q1, ⟨K, q2⟩, q3⟩ := szWarps aws (by omega) hl aws.length 0 (1048576 - (words.length : Int) - (aws.length : Int)) (by omega) (by omega)
      refine ⟨s, ⟨K, fun k hk => ?_⟩, fun h => ⟨by omega, by omega, fun j hj => q3 h j (Nat.zero_le _) hj⟩⟩
      show laws_szMach.f k words aws 1048576 = _
      rw [hm]
      unfold laws_szWarpS.f
      have q2' : laws_szWarpS.l0 k aws (1048576 - (words.length : Int) - (aws.length : Int)) 0 = some s := q2 k hk
      rw [w1, if_neg c2, q2', Option.bind_some]
      by_cases z : s < 0
      · rw [if_pos z, show s = -1 by omega]
      · rw [if_neg z]
def conv (x : S71) : S49 := ⟨x.f0, x.f1, x.f2, x.f3, x.f4, x.f5, x.f6, x.f7⟩
theorem toWarps (aws : List S71) (h64 : aws.length ≤ 1048576) (hl : ∀ j, j < aws.length → (rd_T71 aws (j : Int)).f1.length + (rd_T71 aws (j : Int)).f2.length ≤ 1048576) : ∀ (m i : Nat) (out : List S49), i + m = aws.length → out.length = aws.length → (∀ j, j < i → out[j]? = (aws.map conv)[j]?) →
    Tells (fun k => laws_toWarpS.l0 k aws out i) (aws.map conv)
  | 0, i, out, hm, ho, hp => by
    have e : out = aws.map conv := by
      apply List.ext_getElem?
      intro j
      by_cases c : j < i
      · exact hp j c
      · rw [List.getElem?_eq_none (by omega), List.getElem?_eq_none (by rw [List.length_map]; omega)]
    subst e
    exact Tells.now 0 fun k _ => by rw [laws_toWarpS.l0, if_neg (by omega)]
  | m + 1, i, out, hm, ho, hp => by
    have hi : i < aws.length := by omega
    have hx := hl i hi
    have w1 : wrap64 ((i : Int) + 1) = ((i + 1 : Nat) : Int) := by rw [w64 (by omega) (by omega)]; omega
    refine (toWarps aws h64 hl m (i + 1) (out.set i (conv (rd_T71 aws (i : Int)))) (by omega) (by rw [List.length_set]; exact ho) (fun j hj => ?_)).step 1048600 fun k hk => ?_
    · rw [List.getElem?_set]
      by_cases c : i = j
      · subst c
        rw [if_pos rfl, if_pos (by omega), List.getElem?_map, List.getElem?_eq_getElem hi, Option.map_some, (rd25_mem aws i hi).2]
      · rw [if_neg c]
        exact hp j (by omega)
    · rw [laws_toWarpS.l0, if_pos (by omega), if_pos (by omega), toWarp_eq _ _ _ _ _ _ _ _ (by omega) (by omega) k (by omega), Option.bind_some, if_pos (by omega), w1, Int.toNat_natCast]
      rfl
theorem toWords (l : List Int) (hn : l.length ≤ 1048576) (k : Nat) (hk : l.length < k) : laws_toUint32S.f k l = some l := by
  unfold laws_toUint32S.f
  rw [if_pos (by omega), if_pos (by omega)]
  have h := fill_loop l id (fun k ys i => laws_toUint32S.l0 k l ys i) (by omega) (fun k ys => by simp only [laws_toUint32S.l0]; rw [if_neg (by omega)])
    (fun k ys i hi hl => by
      simp only [laws_toUint32S.l0, Option.bind_some]
      rw [if_pos (by omega), if_pos (by omega), if_pos (by omega), rdI l i hi, w64 (by omega) (by omega)]
      rfl)
    l.length 0 (List.replicate l.length 0) k (by simp) (by omega) hk
  simpa using h
theorem toMach_tells (words : List Int) (aws : List S71) (h1 : words.length ≤ 1048576) (h2 : aws.length ≤ 1048576) (hl : ∀ j, j < aws.length → (rd_T71 aws (j : Int)).f1.length + (rd_T71 aws (j : Int)).f2.length ≤ 1048576) : Tells (fun k => laws_toMach.f k words aws) (words, aws.map conv) := by
  obtain ⟨K, hK⟩ := toWarps aws h2 hl aws.length 0 (List.replicate aws.length z49) (by omega) (by simp) (fun j hj => by omega)
  refine ⟨K + words.length + 1, fun k hk => ?_⟩
  show laws_toMach.f k words aws = _
  unfold laws_toMach.f laws_toMem.f
  rw [toWords words h1 k (by omega), Option.bind_some, Option.bind_some]
  unfold laws_toWarpS.f
  have hK' : laws_toWarpS.l0 k aws (List.replicate aws.length z49) 0 = some (aws.map conv) := hK k (by omega)
  rw [if_pos (by omega), if_pos (by omega), Int.toNat_natCast, hK', Option.bind_some]
theorem eqWords (l : List Int) (hn : l.length ≤ 2000000) (k : Nat) (hk : l.length < k) : laws_eqUint32S.f k l l = some true := by
  unfold laws_eqUint32S.f
  rw [if_pos rfl]
  obtain ⟨b, h1, h2⟩ := all_loop l.length (fun _ => true) (fun k i => laws_eqUint32S.l0 k l l i) (fun k => by simp only [laws_eqUint32S.l0]; rw [if_neg (by omega)])
    (fun k i hi => by
      simp only [laws_eqUint32S.l0]
      rw [if_pos (by omega), if_pos (by omega), if_pos (by omega), w64 (by omega) (by omega)]
      simp) l.length 0 k (by omega) hk
  rw [show b = true from h2.2 (fun _ _ _ => rfl)] at h1
  exact h1
theorem eqWarps (ws : List S49) (h64 : ws.length ≤ 1048576) (hl : ∀ j, j < ws.length → (rd_T49 ws (j : Int)).f1.length + (rd_T49 ws (j : Int)).f2.length ≤ 1048576) : ∀ (m i : Nat), i + m = ws.length → Tells (fun k => laws_eqWarpS.l0 k ws ws i) true
  | 0, i, hm => Tells.now 0 fun k _ => by rw [laws_eqWarpS.l0, if_neg (by omega)]
  | m + 1, i, hm => by
    have hx := hl i (by omega)
    have w1 : wrap64 ((i : Int) + 1) = ((i + 1 : Nat) : Int) := by rw [w64 (by omega) (by omega)]; omega
    exact (eqWarps ws h64 hl m (i + 1) (by omega)).step 1048600 fun k hk => by
      rw [laws_eqWarpS.l0, if_pos (by omega), if_pos (by omega), if_pos (by omega), eqWarp_self _ _ _ _ _ _ _ _ (by omega) (by omega) k (by omega), Option.bind_some, if_pos rfl, w1]
theorem eqMach_tells (words : List Int) (ws : List S49) (h1 : words.length ≤ 1048576) (h2 : ws.length ≤ 1048576) (hl : ∀ j, j < ws.length → (rd_T49 ws (j : Int)).f1.length + (rd_T49 ws (j : Int)).f2.length ≤ 1048576) : Tells (fun k => laws_eqMach.f k words ws words ws) true := by
  obtain ⟨K, hK⟩ := eqWarps ws h2 hl ws.length 0 (by omega)
  refine ⟨K + words.length + 1, fun k hk => ?_⟩
  show laws_eqMach.f k words ws words ws = _
  unfold laws_eqMach.f laws_eqMem.f
  rw [eqWords words (by omega) k (by omega), Option.bind_some, if_pos rfl, Option.bind_some, if_pos rfl]
  unfold laws_eqWarpS.f
  have hK' : laws_eqWarpS.l0 k ws ws 0 = some true := hK k (by omega)
  rw [if_pos rfl, hK', Option.bind_some, if_pos rfl]
theorem rd_conv (aws : List S71) (j : Nat) (hj : j < aws.length) : rd_T49 (aws.map conv) (j : Int) = conv (rd_T71 aws (j : Int)) := by
  rw [(rd25_mem aws j hj).2]
  simp [rd_T49, List.getD_eq_getElem?_getD, hj]
end Go.Proofs.YtobboonnfocalaaGreatDoor.Own
