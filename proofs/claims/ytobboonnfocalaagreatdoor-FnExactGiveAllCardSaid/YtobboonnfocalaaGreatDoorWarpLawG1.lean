/- A warp as an argument of a law: its size, its copy, and that it equals itself. Conditions: none. -/
import Derived.Test.YtobboonnfocalaaGreatDoorLawIntsG1
import Derived.Test.YtobboonnfocalaaGreatDoorPG1x3
import Derived.Test.YtobboonnfocalaaGreatDoorPG1x0
set_option linter.unusedVariables false
set_option linter.unusedSimpArgs false
namespace Go.Proofs.YtobboonnfocalaaGreatDoor.Base
open Go.RowKit Go.Proofs.YtobboonnfocalaaGreatDoor.PG1 Go.Proofs.YtobboonnfocalaaGreatDoorW.PrintWords Go.Proofs.YtobboonnfocalaaGreatDoorW.PrintLast

theorem szWarp_small (c : Int) (vals got : List Int) (t ph pr he seen : Int) (n : Int) (h1 : vals.length ≤ 9223372036854775807) (h2 : got.length ≤ 9223372036854775807) (h0 : 0 ≤ n ∧ n ≤ 1048576) :
    laws_szWarp.f c vals got t ph pr he seen n = some (if n < (vals.length : Int) + got.length then -1 else n - vals.length - got.length) := by
  unfold laws_szWarp.f
  rw [szIntS_eq vals n h1 h0.1 h0.2, Option.bind_some]
  by_cases c1 : n < (vals.length : Int)
  · rw [if_pos c1, if_pos (by omega), if_pos (by omega)]
  · rw [if_neg c1, if_neg (by omega), szIntS_eq got _ h2 (by omega) (by omega), Option.bind_some]
    by_cases c2 : n - (vals.length : Int) < got.length
    · rw [if_pos c2, if_pos (by omega), if_pos (by omega)]
    · rw [if_neg c2, if_neg (by omega), if_neg (by omega)]
theorem toWarp_eq (c : Int) (vals got : List Int) (t ph pr he seen : Int) (h1 : vals.length ≤ 1048576) (h2 : got.length ≤ 1048576) (k : Nat) (hk : vals.length + got.length < k) :
    laws_toWarp.f k c vals got t ph pr he seen = some (c, vals, got, t, ph, pr, he, seen) := by
  unfold laws_toWarp.f
  rw [toIntS_eq vals h1 k (by omega), Option.bind_some, toIntS_eq got h2 k (by omega), Option.bind_some]
theorem eqWarp_self (c : Int) (vals got : List Int) (t ph pr he seen : Int) (h1 : vals.length ≤ 1048576) (h2 : got.length ≤ 1048576) (k : Nat) (hk : vals.length + got.length < k) :
    laws_eqWarp.f k c vals got t ph pr he seen c vals got t ph pr he seen = some true := by
  unfold laws_eqWarp.f
  rw [if_pos rfl, eqIntS_self vals (by omega) k (by omega), Option.bind_some, if_pos rfl, eqIntS_self got (by omega) k (by omega), Option.bind_some, if_pos rfl, if_pos rfl, if_pos rfl, if_pos rfl, if_pos rfl, if_pos rfl]
end Go.Proofs.YtobboonnfocalaaGreatDoor.Base
