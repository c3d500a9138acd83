/- The library's table as the rows list it: its cells, and a world that holds it. Conditions: none. -/
import Derived.Test.YtobboonnfocalaaGreatDoorRows
import Derived.Test.YtobboonnfocalaaGreatDoorLowG1
import Derived.WalkKit
import Derived.ProofKit
import Derived.ChangeVars
import Derived.JoinedOf
import Derived.RowKitTokens
import Derived.LaidLaws
import Derived.LaidHandle
import Derived.Stop.Joined
set_option linter.unusedVariables false
set_option linter.unusedSimpArgs false
namespace Go.Proofs.YtobboonnfocalaaGreatDoor.Laid
open Go.ChangeShapes Go.WideShapes Go.RowKit Go.Proofs.YtobboonnfocalaaGreatDoor.PG1

theorem gname : Tryz.prog.globalNamed "math/bits.deBruijn32tab" = some 0 := by kernel_rfl
theorem gtype : (Tryz.prog.globals[0]?).map (·.type) = some 127 := by kernel_rfl
theorem cellsA : Tryz.prog.cellsOf 127 = 32 := by kernel_rfl
theorem cellsE : Tryz.prog.cellsOf 5 = 1 := by kernel_rfl
theorem int_of_trod {H : Type} {enc : TypeId × Value → H} {P : Program} {w : World} {base : Nat} {sp : Nat → Bool} {held : Bool} {fuel : Nat} {t : TypeId} {k : IntKind} {c : Value} {y : DataW H × List MemPlace}
    (ht : P.underlying t = some (.int k)) (h : DataW.trod enc P w base sp held fuel t [c] = some y) : ∃ n, c = .int k n ∧ y = (.lit (.int k n), []) := by
  cases fuel with
  | zero => simp [DataW.trod] at h
  | succ fuel =>
    cases c <;> simp [DataW.trod, ht] at h
    rename_i k' n
    obtain ⟨⟨rfl, _⟩, rfl⟩ := h
    exact ⟨n, rfl, rfl⟩
theorem mapM_at {α β : Type} {f : α → Option β} : ∀ {l : List α} {r : List β}, l.mapM f = some r → ∀ (i : Nat) (x : α), l[i]? = some x → ∃ y, f x = some y ∧ r[i]? = some y
  | [], r, h, i, x, hx => by simp at hx
  | a :: l, r, h, i, x, hx => by
    simp only [List.mapM_cons, Option.bind_eq_bind, Option.bind_eq_some_iff, Option.pure_def, Option.some.injEq] at h
    obtain ⟨b, hb, s, hs, rfl⟩ := h
    cases i with
    | zero =>
      obtain rfl : a = x := by simpa using hx
      exact ⟨b, hb, rfl⟩
    | succ i =>
      obtain ⟨y, h1, h2⟩ := mapM_at hs i x (by simpa using hx)
      exact ⟨y, h1, by simpa using h2⟩
def tabD {H : Type} : List (DataW H) := Lib.deBruijn32tab.map fun (n : Nat) => .lit (.int .u8 (n : Int))
theorem laid_tab {H : Type} : (Rows.laid_math_bits_deBruijn32tab : DataW H) = .agg tabD := rfl
abbrev laid : List (String × DataW Unit) := [("math/bits.deBruijn32tab", Rows.laid_math_bits_deBruijn32tab)]
/-- What the condition gives a walk. -/
theorem tab_of_laid {w : World} (h : laidMetH Tryz.prog laid w) : GT w := by
  have h' : laidMet Tryz.prog laid w := h
  obtain ⟨ps, ⟨g, t, cs, fuel, p, q, hg, ht, hvar, hd, _, _⟩, _⟩ := h'
  obtain rfl := Option.some.inj (gname.symm.trans hg)
  obtain rfl := Option.some.inj (gtype.symm.trans ht)
  refine ⟨fun j hj => ?_⟩
  rw [World.var?_cell gname hvar j]
  cases fuel with
  | zero => simp [DataW.trod] at hd
  | succ fuel =>
    simp only [DataW.trod, Tryz.underlying127, cellsA, cellsE] at hd
    split at hd
    · rename_i hl
      rw [laid_tab] at hd
      obtain ⟨xs, hxs, hx⟩ := Option.map_eq_some_iff.1 hd
      have hx1 : xs.map (·.1) = tabD := by
        have := (Prod.mk.inj hx).1
        exact DataW.agg.inj this
      obtain ⟨y, hy, hyx⟩ := mapM_at hxs j j (by rw [List.getElem?_range hj])
      have hjl : j < cs.toList.length := by omega
      have e : (cs.toList.drop (j * 1)).take 1 = [cs.toList[j]] := by
        rw [Nat.mul_one, List.drop_eq_getElem_cons hjl]
        rfl
      rw [e] at hy
      obtain ⟨n, hc, rfl⟩ := int_of_trod Tryz.underlying5 hy
      have h1 : (xs.map (·.1))[j]? = some (.lit (.int .u8 n)) := by rw [List.getElem?_map, hyx]; rfl
      rw [hx1] at h1
      have h2 : (tabD : List (DataW Unit))[j]? = some (.lit (.int .u8 ((Lib.deBruijn32tab.getD j 0 : Nat) : Int))) := by
        have hj2 : j < Lib.deBruijn32tab.length := hj
        unfold tabD
        rw [List.getElem?_map, List.getElem?_eq_getElem hj2, List.getD_eq_getElem?_getD, List.getElem?_eq_getElem hj2]
        rfl
      have h3 := Option.some.inj (h1.symm.trans h2)
      have h4 : n = ((Lib.deBruijn32tab.getD j 0 : Nat) : Int) := by
        have := DataW.lit.inj h3
        exact (Lit.int.inj this).2
      rw [← h4, ← hc]
      have : cs[j]? = cs.toList[j]? := by simp
      rw [this, List.getElem?_eq_getElem hjl]
    · cases hd
/-- A world that meets the condition: the settled one, the table laid. -/
def tabC : Array Value := (Lib.deBruijn32tab.map fun (n : Nat) => Value.int .u8 (n : Int)).toArray
noncomputable def laidWorld (os : Os) : World :=
  let w0 := World.holding Tryz.prog os ⟨#[], #[], []⟩
  { w0 with heap := w0.heap.modify 0 fun
      | .cells _ t frozen => .cells tabC t frozen
      | o => o }
theorem laidWorld_met (os : Os) (args : Array Value) : laidMetH Tryz.prog laid ((laidWorld os).forCall (fun _ _ => 0) ⟨#[], args, []⟩).memory :=
  laidMetH_of_parts (laidMet_of_run' 8 (by kernel_rfl) (by kernel_rfl)) (by kernel_rfl)
end Go.Proofs.YtobboonnfocalaaGreatDoor.Laid
