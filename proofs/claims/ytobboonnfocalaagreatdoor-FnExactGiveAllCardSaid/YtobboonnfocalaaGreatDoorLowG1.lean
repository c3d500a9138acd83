/- The place of the lowest set bit of a word. Conditions: the library's table lies as its initialiser lays it. -/
import Derived.Test.YtobboonnfocalaaGreatDoorPG1x0
import Derived.Lib.TrailingZeros
import Derived.Laws.Bits64b
set_option linter.unusedVariables false
set_option linter.unusedSimpArgs false
namespace Go.Proofs.YtobboonnfocalaaGreatDoor.PG1
open Go.RowKit Go.Proofs.YtobboonnfocalaaGreatDoorW.PrintWords Go.Proofs.YtobboonnfocalaaGreatDoorW.PrintLast Go.Proofs.YtobboonnfocalaaGreatDoorW.PrintMore

/-- The library's table lies in its variable. -/
structure GT (w : World) : Prop where
  tab : ∀ j, j < 32 → w.cell? ⟨0, j, none⟩ = some (.int .u8 (Lib.deBruijn32tab.getD j 0))
theorem GT.lt {w : World} (h : GT w) : 0 < w.heap.size := by
  have h0 := h.tab 0 (by decide)
  simp only [World.cell?] at h0
  cases hb : w.heap[0]? with
  | none => rw [hb] at h0; cases h0
  | some o =>
    apply Nat.lt_of_not_le
    intro hl
    rw [Array.getElem?_eq_none hl] at hb
    cases hb
theorem GT.below {w w' : World} (h : GT w) (hb : Below w.heap.size w w') : GT w' :=
  ⟨fun j hj => (hb.cell (p := ⟨0, j, none⟩) h.lt).trans (h.tab j hj)⟩

theorem tz_and (a b : Nat) (ha : a < 4294967296) (hb : b < 4294967296) : bits .and .u32 (a : Int) (b : Int) = ((a &&& b : Nat) : Int) := by
  have hx : a &&& b < 2 ^ 32 := Nat.and_lt_two_pow _ (by omega)
  have h1 : (BitVec.ofInt 32 (a : Int)).toNat = a := by
    rw [BitVec.ofInt_natCast, BitVec.toNat_ofNat]; exact Nat.mod_eq_of_lt (by omega)
  have h2 : (BitVec.ofInt 32 (b : Int)).toNat = b := by
    rw [BitVec.ofInt_natCast, BitVec.toNat_ofNat]; exact Nat.mod_eq_of_lt (by omega)
  show IntKind.u32.wrap ((BitVec.ofInt 32 (a : Int) &&& BitVec.ofInt 32 (b : Int)).toNat : Int) = _
  rw [BitVec.toNat_and, h1, h2]
  simp [IntKind.wrap, IntKind.signed, IntKind.bits]
  omega
theorem tz_key (x a : Nat) (hx : x < 4294967296) (hx0 : x ≠ 0) (hlow : x &&& (4294967296 - x) = a) :
    bits BinOp.and IntKind.u32 (x : Int) (-(x : Int) % 4294967296) * 125613361 % 4294967296 / 134217728 = ((a * 125613361 % 4294967296 / 134217728 : Nat) : Int) := by
  have e1 : -(x : Int) % 4294967296 = ((4294967296 - x : Nat) : Int) := by omega
  rw [e1, tz_and x _ hx (by omega), hlow]
  omega
set_option maxHeartbeats 4000000 in
set_option maxRecDepth 100000 in
theorem tz_core (x k idx : Nat) (w : World) (hx0 : ((x : Int) == 0) = false)
    (key : bits BinOp.and IntKind.u32 (x : Int) (-(x : Int) % 4294967296) * 125613361 % 4294967296 / 134217728 = (idx : Int))
    (hi : idx < 32) (hk : k < 32) (hcell : w.cell? ⟨0, idx, none⟩ = some (.int .u8 k)) :
    Calls Tryz.prog 107 #[.int .u32 x] w fun e w' => e = .returned (.int .i64 k) ∧ w' = w := by
  go_enter Tryz.func107, Tryz.ntmps107
  go_wp2_with (simp only [key])
  go_ret
  exact ⟨rfl, rfl⟩
theorem TrailingZeros32 (x : Nat) (hx : x < 4294967296) (hx0 : x ≠ 0) (w : World) (hT : GT w) :
    Calls Tryz.prog 107 #[.int .u32 x] w fun e w' => e = .returned (.int .i64 (Lib.ctz 32 x)) ∧ w' = w := by
  obtain ⟨hlow, hk⟩ := Lib.lowest_bit 32 x hx0 hx
  obtain ⟨hi, htab⟩ := Lib.deBruijn32_at _ hk
  have hcell := hT.tab _ hi
  rw [htab] at hcell
  exact tz_core x _ _ w (by simp; omega) (tz_key x _ hx hx0 hlow) hi hk hcell

/-! ### impl_Lowest: function 102 -/
def impl_Lowest.f (a0 : Int) : Option Int := if 0 ≤ a0 ∧ a0 < 4294967296 then some (if a0 = 0 then -1 else (Lib.ctz 32 a0.toNat : Int)) else none
set_option maxHeartbeats 4000000 in
set_option maxRecDepth 100000 in
theorem impl_Lowest.calls (a0 : Int) (r : Int) (w : World) (h : impl_Lowest.f a0 = some r) (hT : GT w) :
    Calls Tryz.prog 102 #[.int .u32 a0] w fun e w' => e = .returned (.int .i64 r) ∧ Below w.heap.size w w' := by
  unfold impl_Lowest.f at h
  by_cases hg : 0 ≤ a0 ∧ a0 < 4294967296
  · rw [if_pos hg] at h
    obtain rfl := Option.some.inj h
    by_cases h0 : a0 = 0
    · subst h0
      rw [if_pos rfl]
      go_enter Tryz.func102, Tryz.ntmps102
      go_wp2
      go_ret
      exact ⟨rfl, Below.refl _ _⟩
    · rw [if_neg h0]
      have hb0 : (a0 == 0) = false := beq_eq_false_iff_ne.mpr h0
      have C1 := TrailingZeros32 a0.toNat (by omega) (by omega) w hT
      rw [show ((a0.toNat : Nat) : Int) = a0 by omega] at C1
      go_enter Tryz.func102, Tryz.ntmps102
      go_wp2_with (go_at_call 107; refine C1.mono ?_; rintro e w' ⟨rfl, rfl⟩)
      go_ret
      exact ⟨rfl, Below.refl _ _⟩
  · rw [if_neg hg] at h
    cases h
end Go.Proofs.YtobboonnfocalaaGreatDoor.PG1
