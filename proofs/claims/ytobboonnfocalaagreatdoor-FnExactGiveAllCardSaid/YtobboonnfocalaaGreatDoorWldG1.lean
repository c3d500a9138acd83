/- Worlds cell by cell, and what copy does with rows. Conditions: none. -/
import Derived.Test.YtobboonnfocalaaGreatDoorPG1x0
import Derived.Test.YtobboonnfocalaaGreatDoorVG10
import Derived.Laws.IdiomCopy
set_option linter.unusedVariables false
set_option linter.unusedSimpArgs false
namespace Go.Proofs.YtobboonnfocalaaGreatDoor.Sl
open Go.RowKit Go.Lib Go.Proofs.YtobboonnfocalaaGreatDoorW.PrintWords Go.Proofs.YtobboonnfocalaaGreatDoorW.PrintLast Go.Proofs.YtobboonnfocalaaGreatDoorW.PrintMore Go.Proofs.YtobboonnfocalaaGreatDoor.PG1

/-! ### worlds -/
/-- The array with these values from place k on. -/
def wr (d : Array Value) : Nat → List Value → Array Value
  | _, [] => d
  | k, x :: r => wr (d.setIfInBounds k x) (k + 1) r
theorem wr_size : ∀ (xs : List Value) (d : Array Value) (k : Nat), (wr d k xs).size = d.size
  | [], _, _ => rfl
  | x :: r, d, k => by rw [wr, wr_size r]; simp
theorem wr_get? : ∀ (xs : List Value) (d : Array Value) (k j : Nat), k + xs.length ≤ d.size → (wr d k xs)[j]? = if k ≤ j ∧ j < k + xs.length then xs[j - k]? else d[j]?
  | [], d, k, j, _ => by rw [wr, if_neg (by simp only [List.length_nil]; omega)]
  | x :: r, d, k, j, h => by
    have hl : k + (r.length + 1) ≤ d.size := by simpa using h
    rw [wr, wr_get? r _ _ _ (by simp; omega), List.length_cons]
    by_cases c : k + 1 ≤ j ∧ j < k + 1 + r.length
    · rw [if_pos c, if_pos (by omega), show j - k = (j - (k + 1)) + 1 by omega, List.getElem?_cons_succ]
    · rw [if_neg c]
      by_cases e : j = k
      · subst e
        rw [if_pos (by omega), Nat.sub_self, List.getElem?_cons_zero, Array.getElem?_setIfInBounds_self_of_lt (by omega)]
      · rw [if_neg (by omega), Array.getElem?_setIfInBounds_ne (by omega)]
theorem cell_of_blk {w : World} {g : Nat} {t : TypeId} {cs : Array Value} {fz : Nat × Nat} (h : w.heap[g]? = some (.cells cs t fz)) (j : Nat) : w.cell? ⟨g, j, none⟩ = cs[j]? := by simp [World.cell?, h]
theorem heap_setCells {g : Nat} {t : TypeId} : ∀ (vs : List Value) (o : Nat) (w : World) (cs : Array Value), w.heap[g]? = some (.cells cs t (0, 0)) → (w.setCells g o vs).heap[g]? = some (.cells (wr cs o vs) t (0, 0))
  | [], _, _, _, h => h
  | v :: r, o, w, cs, h => heap_setCells r (o + 1) _ _ (blk_set h o v)
theorem below_setCells' {B g : Nat} {a : World} (hb : B ≤ g) : ∀ (vs : List Value) (o : Nat) (w : World), Below B a w → Below B a (w.setCells g o vs)
  | [], _, _, h => h
  | v :: r, o, w, h => below_setCells' hb r (o + 1) _ (h.setCell (by exact hb) v)
theorem below_from {B C : Nat} {w w1 w2 : World} (h : Below B w w1) (hB : B ≤ C) (k : Below C w1 w2) : Below B w w2 := h.trans ⟨k.os, k.tape, k.output, k.size, fun i hi => k.block i (Nat.lt_of_lt_of_le hi hB)⟩
theorem wr_list : ∀ (xs : List Value) (d : Array Value) (k : Nat), k + xs.length ≤ d.size → (wr d k xs).toList = d.toList.take k ++ xs ++ d.toList.drop (k + xs.length) := by
  intro xs d k h
  apply List.ext_getElem?
  intro j
  rw [Array.getElem?_toList, wr_get? xs d k j h]
  have hk : (d.toList.take k).length = k := by simp; omega
  by_cases c : j < k
  · rw [if_neg (by omega), List.append_assoc, List.getElem?_append_left (by omega), List.getElem?_take, if_pos c, Array.getElem?_toList]
  · by_cases c2 : j < k + xs.length
    · rw [if_pos (by omega), List.append_assoc, List.getElem?_append_right (by omega), hk, List.getElem?_append_left (by omega)]
    · rw [if_neg (by omega), List.append_assoc, List.getElem?_append_right (by omega), hk, List.getElem?_append_right (by omega), List.getElem?_drop, Array.getElem?_toList]
      congr 1
      omega

theorem zero_cells (u : Value) (n : Nat) : (Builtin.zeroCells #[u, u] n).toList = List.replicate (n * 2) u := by
  unfold Builtin.zeroCells
  apply List.ext_getElem
  · simp
  · intro i h1 h2
    simp only [Array.toList_map, List.getElem_map, List.getElem_replicate]
    rcases Nat.mod_two_eq_zero_or_one ((Array.range (n * (#[u, u] : Array Value).size)).toList[i]'(by simpa using h2)) with h | h
    · show (#[u, u] : Array Value)[_ % 2]! = u
      rw [h]
      rfl
    · show (#[u, u] : Array Value)[_ % 2]! = u
      rw [h]
      rfl
/-! ### builtins at elements of several cells -/
theorem run_copy_size {P : Program} (w : World) (dT sT ty elem : TypeId) (size b o dLen dCap : Nat) (a : Addr) (sLen sCap : Nat) (cs : List Value)
    (hu : P.underlying dT = some (.slice elem)) (hs : (P.info? elem).map (·.size) = some size) (hn : cs.length = Nat.min sLen dLen * size)
    (hsrc : ∀ j v, cs[j]? = some v → w.cell? (a.add j) = some v) (hc : ∀ j, j < cs.length → (w.cell? ⟨b, o + j, none⟩).isSome = true) (hf : ∀ j, j < cs.length → w.frozen? ⟨b, o + j, none⟩ = false) (h1 : ∀ v ∈ cs, v.oneCell' = true) :
    (Builtin.copy_ #[dT, sT] ty #[.slice (some ⟨b, o, none⟩) dLen dCap, .slice (some a) sLen sCap]).run P w = .ok (goInt (Nat.min sLen dLen)) (w.setCells b o cs) := by
  have hl := run_loadCells_list (P := P) w a cs hsrc
  have hst := run_storeCells_cells (P := P) b o cs 0 w (by simpa using hc) (by simpa using hf) h1
  cases hq : P.info? elem with
  | none => simp [hq] at hs
  | some i =>
    have hi : i.size = size := by simpa [hq] using hs
    simp [Builtin.copy_, run_underlying hu, Builtin.lenOf, Builtin.firstCells, sizeOf, typeInfo, hq, hi, ← hn, hl, hst]
/-- 'copy' in a walk, its run being known. -/
theorem copy_at {P : Program} (w : World) {ops : Array Oper} {rest : List Oper} {o : Oper} {a : Act} {Q : Exit → Act → World → Prop} (hgd : o.guard = none) (x y : Operand) (t t' : TypeId)
    (ho : o.op = .call { callee := .builtin .copy, args := #[x, y], argTypes := #[t, t'] }) (v u : Value) (hx : a.eval x = v) (hy : a.eval y = u) {v' : Value} {w' : World}
    (hr : (Builtin.copy_ #[t, t'] o.type #[v, u]).run P w = .ok v' w') (h : wpList P ops Q rest (a.put o.dst v') w') : wpList P ops Q (o :: rest) a w := by
  refine wpList_plain hgd fun K hK => ?_
  have hk := hK _ _ h
  simp only [Oper.wp, execOp, ho, resolve, invoke, builtin, Sem.run_bind, Sem.run_pure, Result.andThen_ok, List.map_toArray, List.map_cons, List.map_nil, hx, hy, hr]
  exact hk
/-- The same where the region draws. -/
theorem copy_step {P : Program} {ops : Array Oper} {o : Oper} {a : Act} {w : World} {K : Act → World → Prop} {Q : Exit → Act → World → Prop} {E : Prop}
    (hgd : o.guard = none) (x y : Operand) (t t' : TypeId) (ho : o.op = .call { callee := .builtin .copy, args := #[x, y], argTypes := #[t, t'] })
    (v u : Value) (hx : a.eval x = v) (hy : a.eval y = u) {v' : Value} {w' : World} (hr : (Builtin.copy_ #[t, t'] o.type #[v, u]).run P w = .ok v' w') (h : K (a.put o.dst v') w') :
    if Region.wanted o (yielded ops a.tmps) = true then o.wp P a w K Q else E := by
  rw [if_pos (by simp [Region.wanted, hgd])]
  simp [Oper.wp, execOp, ho, resolve, invoke, builtin, hx, hy, hr, Result.andThen]
  exact h
theorem setCells_some (b : Nat) (vs : List Value) (o : Nat) (w : World) (h : ∀ j, j < vs.length → (w.cell? ⟨b, o + j, none⟩).isSome = true) (k : Nat) (hk : (w.cell? ⟨b, k, none⟩).isSome = true) : ((w.setCells b o vs).cell? ⟨b, k, none⟩).isSome = true := by
  rcases Nat.lt_or_ge k o with h1 | h1
  · rw [World.cell?_setCells_out b vs o w _ (fun _ _ => .inl h1)]
    exact hk
  · rcases Nat.lt_or_ge k (o + vs.length) with h2 | h2
    · have := World.cell?_setCells_in b vs o w h (k - o) (by omega)
      rw [show o + (k - o) = k by omega] at this
      rw [this]
      rfl
    · rw [World.cell?_setCells_out b vs o w _ (fun _ _ => .inr h2)]
      exact hk
theorem run_clear_one {P : Program} (w : World) (t e ty : TypeId) (z : Value) (ht : P.underlying t = some (.slice e)) (hv : ∀ w, (zeroValue e).run P w = .ok z w) (vs : List Value) (hz : (Builtin.zeroCells z.cells 1).toList = vs) (h1 : ∀ v ∈ vs, v.oneCell' = true) (b o c : Nat)
    (hc : ∀ j, j < vs.length → (w.cell? ⟨b, o + j, none⟩).isSome = true) (hf : ∀ j, j < vs.length → w.frozen? ⟨b, o + j, none⟩ = false) :
    (Builtin.clear_ #[t] ty #[.slice (some ⟨b, o, none⟩) 1 c]).run P w = .ok (.tuple #[]) (w.setCells b o vs) := by
  have hst := run_storeCells_cells (P := P) b o vs 0 w (by simpa using hc) (by simpa using hf) h1
  simp only [Nat.add_zero] at hst
  unfold Builtin.clear_
  simp [run_underlying ht, hv, hz, hst]
end Go.Proofs.YtobboonnfocalaaGreatDoor.Sl
