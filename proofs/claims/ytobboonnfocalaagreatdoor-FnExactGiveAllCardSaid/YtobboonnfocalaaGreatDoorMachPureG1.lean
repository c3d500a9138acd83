/- A machine's validity, the program's and the reference's. Conditions: none. -/
import Derived.Test.YtobboonnfocalaaGreatDoorOwnSpecG1
import Derived.Test.YtobboonnfocalaaGreatDoorWarpSpecG1
import Derived.Test.YtobboonnfocalaaGreatDoorWarpLawG1
import Derived.Test.YtobboonnfocalaaGreatDoorPG1x2
import Derived.Test.YtobboonnfocalaaGreatDoorPG1x0
import Derived.Test.YtobboonnfocalaaGreatDoorPG1x1
set_option linter.unusedVariables false
set_option linter.unusedSimpArgs false
namespace Go.Proofs.YtobboonnfocalaaGreatDoor.Own
open Go.RowKit Go.Proofs.YtobboonnfocalaaGreatDoor.Base Go.Proofs.YtobboonnfocalaaGreatDoor.PG1 Go.Proofs.YtobboonnfocalaaGreatDoorW.PrintWords Go.Proofs.YtobboonnfocalaaGreatDoorW.PrintLast Go.Proofs.YtobboonnfocalaaGreatDoorW.PrintMore

def wOk (n : Int) (x : S49) : Bool := warpOk x.f0 x.f1 x.f2 x.f3 x.f4 x.f5 x.f6 x.f7 n
/-- What a warp's numbers are by their types. -/
def Wf (x : S49) : Prop := (0 ≤ x.f3 ∧ x.f3 ≤ 4294967295) ∧ (0 ≤ x.f7 ∧ x.f7 ≤ 4294967295) ∧ W x.f5 ∧ W x.f6 ∧ ∀ v ∈ x.f1, W v
theorem isW_eq {n : Int} {x : S49} (h : Wf x) : isW n x = some (wOk n x) := impl_warp _ _ _ _ _ _ _ _ _ h.2.2.1 h.2.2.2.1 h.2.2.2.2 h.1 h.2.1 60 (by omega)
theorem specW_eq {n : Int} {x : S49} (h : Wf x) (k : Nat) (hk : 8000 < k) : spec_WarpOk.f k x.f0 x.f1 x.f2 x.f3 x.f4 x.f5 x.f6 x.f7 n = some (wOk n x) := spec_warp _ _ _ _ _ _ _ _ _ h.1 h.2.1 k hk
theorem ok_ranges {c : Int} {vals got : List Int} {t ph pr he seen ch : Int} (h : warpOk c vals got t ph pr he seen ch = true) : (0 ≤ pr ∧ pr ≤ 16) ∧ (0 ≤ he ∧ he ≤ 16) := by
  unfold warpOk at h
  split at h
  · rename_i h1
    split at h
    · simp only [decide_eq_true_eq] at h
      omega
    · split at h
      · rename_i h3
        unfold bodyOk at h
        split at h
        · unfold giving at h
          (repeat' split at h) <;> first | (cases h; done) | (simp only [Bool.and_eq_true, decide_eq_true_eq] at h; omega)
        · split at h
          · unfold small at h
            split at h
            · rename_i h4
              omega
            · cases h
          · unfold large at h
            have hr := chunksFor_range (leadOf vals t)
            split at h
            · rename_i h4
              omega
            · cases h
      · cases h
  · cases h
theorem all_rng {n : Int} {ws : List S49} (h : (ws.all fun x => wOk n x) = true) : Rng ws := fun x hx => ok_ranges (List.all_eq_true.1 h x hx)
theorem ctlWord_eq {x : Int} (h : 0 ≤ x ∧ x ≤ 4294967295) : isCtlWord x = (ctlRead x).2.2.2.2 := by
  obtain ⟨r1, r2, r3, r4, e⟩ := isCtlWord_spec x
  have := impl_ctlRead x h.1 h.2 2 (by omega)
  rw [e] at this
  exact (congrArg (fun r => r.2.2.2.2) (Option.some.inj this))
theorem allCtl_iff {words : List Int} (hu : U32 words) : (words.all isCtlWord) = true ↔ AllCtl words := by
  rw [List.all_eq_true]
  constructor
  · intro h i hi
    have hx := u32_at hu hi
    rw [← ctlWord_eq hx]
    apply h
    rw [rd_nat, List.getD_eq_getElem?_getD, List.getElem?_eq_getElem hi]
    exact List.getElem_mem hi
  · intro h x hx
    obtain ⟨i, hi, rfl⟩ := List.getElem_of_mem hx
    have e : rd words (i : Int) = words[i] := by rw [rd_nat, List.getD_eq_getElem?_getD, List.getElem?_eq_getElem hi]; rfl
    rw [ctlWord_eq (hu _ hx), ← e]
    exact h i hi
theorem spec_mem (words : List Int) (hu : U32 words) (hn : words.length ≤ 16) : ∀ (m i : Nat), i + m = words.length →
    ((∀ j, i ≤ j → j < words.length → (ctlRead (rd words (j : Int))).2.2.2.2 = true) → Tells (fun k => spec_l07MemOk.l0 k i words) true) ∧ ((¬ ∀ j, i ≤ j → j < words.length → (ctlRead (rd words (j : Int))).2.2.2.2 = true) → Tells (fun k => spec_l07MemOk.l0 k i words) false)
  | 0, i, hm => by
    refine ⟨fun _ => Tells.now 0 fun k _ => ?_, fun h => absurd (fun j h1 h2 => absurd h2 (by omega)) h⟩
    rw [spec_l07MemOk.l0, if_neg (by omega)]
  | m + 1, i, hm => by
    have hi : i < words.length := by omega
    have hx := u32_at hu hi
    have ih := spec_mem words hu hn m (i + 1) (by omega)
    have st : ∀ k, 61 ≤ k → spec_l07MemOk.l0 (k + 1) (i : Int) words = if (ctlRead (rd words (i : Int))).2.2.2.2 = true then spec_l07MemOk.l0 k ((i + 1 : Nat) : Int) words else some false := fun k hk => by
      rw [spec_l07MemOk.l0, if_pos (by omega), if_pos (by omega), spec_ctlRead _ hx.1 hx.2 k (by omega), Option.bind_some, w64 (by omega) (by omega)]
      rfl
    constructor
    · intro h
      exact (ih.1 (fun j h1 h2 => h j (by omega) h2)).step 61 fun k hk => by rw [st k hk, if_pos (h i (Nat.le_refl _) hi)]
    · intro h
      by_cases c : (ctlRead (rd words (i : Int))).2.2.2.2 = true
      · exact (ih.2 (fun k => h (fun j h1 h2 => by
          by_cases e : j = i
          · subst e; exact c
          · exact k j (by omega) h2))).step 61 fun k hk => by rw [st k hk, if_pos c]
      · exact Tells.now 61 fun k hk => by rw [st k hk, if_neg c]
theorem spec_memOk (words : List Int) (hu : U32 words) (h64 : words.length ≤ 9223372036854775807) : Tells (fun k => spec_l07MemOk.f k words) (heapOk words) := by
  unfold heapOk
  by_cases hn : words.length ≤ 16
  · have L := spec_mem words hu hn words.length 0 (by omega)
    by_cases c : AllCtl words
    · rw [decide_eq_true hn, (allCtl_iff hu).2 c]
      obtain ⟨K, hK⟩ := L.1 (fun j _ h2 => c j h2)
      exact ⟨K, fun k hk => by show spec_l07MemOk.f k words = _; unfold spec_l07MemOk.f; rw [if_neg (by omega)]; exact hK k hk⟩
    · rw [decide_eq_true hn, Bool.eq_false_iff.mpr (fun h => c ((allCtl_iff hu).1 h))]
      obtain ⟨K, hK⟩ := L.2 (fun h => c (fun i hi => h i (Nat.zero_le _) hi))
      exact ⟨K, fun k hk => by show spec_l07MemOk.f k words = _; unfold spec_l07MemOk.f; rw [if_neg (by omega)]; exact hK k hk⟩
  · rw [decide_eq_false hn]
    exact ⟨0, fun k _ => by show spec_l07MemOk.f k words = _; unfold spec_l07MemOk.f; rw [if_pos (by omega)]; rfl⟩
/-- The warps one by one, then the owners. -/
theorem spec_each (words : List Int) (ws : List S49) (hwf : ∀ x ∈ ws, Wf x) (hw : ws.length ≤ 100) (b : Bool) : ∀ (m i : Nat), i + m = ws.length →
    (((ws.drop i).all fun x => wOk words.length x) = true → Tells (fun k => (spec_l08Owners.f k words ws).bind fun r => some r.2) b) → (((ws.drop i).all fun x => wOk words.length x) = false → b = false) →
    Tells (fun k => spec_MachOk.l0 k i words ws) b
  | 0, i, hm, h1, h0 => by
    rw [List.drop_eq_nil_of_le (by omega)] at h1
    refine (h1 rfl).step 0 fun k _ => ?_
    rw [spec_MachOk.l0, if_neg (by omega)]
  | m + 1, i, hm, h1, h0 => by
    have hi : i < ws.length := by omega
    have hx := hwf _ (rdT_mem ws i hi)
    rw [rdT_drop ws i hi, List.all_cons] at h1 h0
    have st : ∀ k, 8001 ≤ k → spec_MachOk.l0 (k + 1) (i : Int) words ws = if wOk words.length (rd_T49 ws (i : Int)) = true then spec_MachOk.l0 k ((i + 1 : Nat) : Int) words ws else some false := fun k hk => by
      rw [spec_MachOk.l0, if_pos (by omega), if_pos (by omega), specW_eq hx k (by omega), Option.bind_some, w64 (by omega) (by omega)]
      rfl
    by_cases c : wOk words.length (rd_T49 ws (i : Int)) = true
    · rw [c, Bool.true_and] at h1 h0
      exact (spec_each words ws hwf hw b m (i + 1) (by omega) h1 h0).step 8001 fun k hk => by rw [st k hk, if_pos c]
    · rw [Bool.eq_false_iff.mpr c, Bool.false_and] at h0
      rw [h0 rfl]
      exact Tells.now 8001 fun k hk => by rw [st k hk, if_neg c]
theorem Tells.out {α β : Type} {f : Nat → Option α} {a : α} {g : α → β} (h : Tells f a) : Tells (fun k => (f k).bind fun r => some (g r)) (g a) := by
  obtain ⟨K, hK⟩ := h
  refine ⟨K, fun k hk => ?_⟩
  show (f k).bind _ = _
  rw [hK k hk, Option.bind_some]
theorem mach_both (words : List Int) (hu : U32 words) (h64 : words.length ≤ 9223372036854775807) (ws : List S49) (hwf : ∀ x ∈ ws, Wf x) (hw64 : ws.length ≤ 9223372036854775807) : ∃ r : List Int × Bool, impl_owners.f words ws = some r ∧ Tells (fun k => spec_MachOk.f k words ws) r.2 ∧ (r.2 = true → Tells (fun k => spec_l08Owners.f k words ws) r) ∧ (r.2 = false → r = ([], false)) := by
  have hmem := spec_memOk words hu h64
  have no : ∀ b : Bool, (∀ k, spec_MachOk.f (k + 1) words ws = (spec_l07MemOk.f (k + 1) words).bind fun t => if t = true then (if (ws.length : Int) < 1 then some false else if (ws.length : Int) > 4 then some false else spec_MachOk.l0 k 0 words ws) else some false) := fun b k => by
    unfold spec_MachOk.f
    congr 1
    funext t
    by_cases c : t = true
    · rw [if_pos c, if_pos c]
      by_cases c1 : (ws.length : Int) < 1
      · rw [if_pos c1, if_pos c1, spec_MachOk.j0, if_pos rfl]
      · rw [if_neg c1, if_neg c1, spec_MachOk.j0]
        by_cases c2 : (ws.length : Int) > 4
        · rw [if_pos c2, if_pos (decide_eq_true c2)]
        · rw [if_neg c2, if_neg (by simp [c2])]
    · rw [if_neg c, if_neg c, spec_MachOk.j0, if_pos rfl]
  replace no := no true
  obtain ⟨K0, hK0⟩ := hmem
  have fin : ∀ b, (heapOk words = true → (1 ≤ ws.length ∧ ws.length ≤ 4) → Tells (fun k => spec_MachOk.l0 k 0 words ws) b) → (¬ (heapOk words = true ∧ (1 ≤ ws.length ∧ ws.length ≤ 4)) → b = false) → Tells (fun k => spec_MachOk.f k words ws) b := by
    intro b h1 h0
    by_cases c : heapOk words = true ∧ (1 ≤ ws.length ∧ ws.length ≤ 4)
    · obtain ⟨K1, hK1⟩ := h1 c.1 c.2
      refine ⟨K0 + K1 + 1, fun k hk => ?_⟩
      obtain ⟨k, rfl⟩ : ∃ m, k = m + 1 := ⟨k - 1, by omega⟩
      show spec_MachOk.f (k + 1) words ws = _
      have hK0' : spec_l07MemOk.f (k + 1) words = some (heapOk words) := hK0 (k + 1) (by omega)
      rw [no k, hK0', Option.bind_some, if_pos c.1, if_neg (show ¬ (ws.length : Int) < 1 by omega), if_neg (show ¬ (ws.length : Int) > 4 by omega)]
      exact hK1 k (by omega)
    · rw [h0 c]
      refine ⟨K0 + 1, fun k hk => ?_⟩
      obtain ⟨k, rfl⟩ : ∃ m, k = m + 1 := ⟨k - 1, by omega⟩
      show spec_MachOk.f (k + 1) words ws = _
      have hK0' : spec_l07MemOk.f (k + 1) words = some (heapOk words) := hK0 (k + 1) (by omega)
      rw [no k, hK0', Option.bind_some]
      by_cases c1 : heapOk words = true
      · rw [if_pos c1]
        by_cases c2 : (ws.length : Int) < 1
        · rw [if_pos c2]
        · have c3 : ¬ (1 ≤ ws.length ∧ ws.length ≤ 4) := fun h => c ⟨c1, h⟩
          rw [if_neg c2, if_pos (show (ws.length : Int) > 4 by omega)]
      · rw [if_neg c1]
  unfold impl_owners.f
  by_cases c1 : heapOk words = true
  · rw [if_pos c1]
    by_cases c2 : 1 ≤ ws.length ∧ ws.length ≤ 4
    · rw [if_pos c2]
      have hall : (ws.all fun x => (isW words.length x).isSome) = true := List.all_eq_true.2 (fun x hx => by rw [isW_eq (hwf x hx)]; rfl)
      have hany : (ws.any fun x => !((isW words.length x).getD false)) = !(ws.all fun x => wOk words.length x) := by
        have : ∀ l : List S49, (∀ x ∈ l, Wf x) → (l.any fun x => !((isW words.length x).getD false)) = !(l.all fun x => wOk words.length x) := by
          intro l
          induction l with
          | nil => intro _; rfl
          | cons x r ih =>
            intro h
            rw [List.any_cons, List.all_cons, ih (fun y hy => h y (List.mem_cons_of_mem _ hy)), isW_eq (h x (List.mem_cons_self ..)), Option.getD_some, Bool.not_and]
        exact this ws hwf
      rw [if_pos hall, hany]
      have h16 := heap16 c1
      have hc : AllCtl words := (allCtl_iff hu).1 (by unfold heapOk at c1; simp only [Bool.and_eq_true] at c1; exact c1.2)
      cases c3 : ws.all fun x => wOk words.length x
      · rw [Bool.not_false, if_pos rfl]
        refine ⟨_, rfl, fin false (fun _ _ => ?_) (fun h => absurd ⟨c1, c2⟩ h), (fun h => by cases h), fun _ => rfl⟩
        exact spec_each words ws hwf (by omega) false ws.length 0 (by omega) (fun h => by rw [List.drop_zero, c3] at h; cases h) (fun _ => rfl)
      · rw [Bool.not_true, if_neg Bool.false_ne_true]
        obtain ⟨r, hM, hT⟩ := owners_both words hu hc h16 ws (all_rng c3) (by omega)
        refine ⟨r, hM, fin r.2 (fun _ _ => ?_) (fun h => absurd ⟨c1, c2⟩ h), fun _ => hT, fun h => ?_⟩
        · exact spec_each words ws hwf (by omega) r.2 ws.length 0 (by omega) (fun _ => Tells.out (g := fun r : List Int × Bool => r.2) hT) (fun h => by rw [List.drop_zero, c3] at h; cases h)
        · unfold ownersM at hM
          have h2 : ∀ (o : Option (Bool × List Int)) (g : Bool × List Int → Option (List Int × Bool)), (∀ x, g x = some r → r.2 = false → r = ([], false)) → o.bind g = some r → r.2 = false → r = ([], false) := by
            intro o g hg he hf
            cases o with
            | none => cases he
            | some x => exact hg x he hf
          refine h2 _ _ (fun x hx hf => ?_) hM h
          split at hx
          · refine h2 _ _ (fun y hy hf => ?_) hx hf
            split at hy
            · cases e : freeL words 0 y.2
              · rw [e] at hy; exact (Option.some.inj hy).symm
              · rw [e] at hy
                rw [← Option.some.inj hy] at hf
                cases hf
            · exact (Option.some.inj hy).symm
          · exact (Option.some.inj hx).symm
    · rw [if_neg c2]
      exact ⟨_, rfl, fin false (fun _ h => absurd h c2) (fun _ => rfl), (fun h => by cases h), fun _ => rfl⟩
  · rw [if_neg c1]
    exact ⟨_, rfl, fin false (fun h => absurd h c1) (fun _ => rfl), (fun h => by cases h), fun _ => rfl⟩
end Go.Proofs.YtobboonnfocalaaGreatDoor.Own
