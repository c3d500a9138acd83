/- What functions of the program compute, each as a Lean function, and that the run comes to just that. Conditions: none. -/
import Derived.Test.YtfhcnnkeokjfpaaGreatDoorTO1
import Derived.Test.YtfhcnnkeokjfpaaGreatDoorPO1x0
import Derived.Test.YtfhcnnkeokjfpaaGreatDoorPO1x1
import Derived.Test.YtfhcnnkeokjfpaaGreatDoorPO1x2
import Derived.Test.YtfhcnnkeokjfpaaGreatDoorT2O1
namespace Go.Proofs.YtfhcnnkeokjfpaaGreatDoor.PO1
open Go.RowKit Go.Proofs.YtfhcnnkeokjfpaaGreatDoorW.PrintWords Go.Proofs.YtfhcnnkeokjfpaaGreatDoorW.PrintLast Go.Proofs.YtfhcnnkeokjfpaaGreatDoorW.PrintMore Go.Proofs.YtfhcnnkeokjfpaaGreatDoor.T
attribute [local go_sem] max2_int min2_int max_two min_two max_three min_three max_four min_four   -- for this text's walks alone
set_option linter.unusedVariables false
set_option linter.unusedSimpArgs false

/-! ### spec_WarpOk: function 27 -/
mutual
def spec_WarpOk.j0 : Nat → Int → Bool → Int → List Int → List Int → Int → Int → Int → Int → Int → Option (Bool)
 | 0, _, _, _, _, _, _, _, _, _, _ => none
 | k + 1, x1, x35, x266000, x266001, x266002, x266003, x266004, x266005, x266006, x266007 => if x35 = true then (some false) else (if x266000 = 0 then (if x266003 = 0 then (if x266004 = 0 then (if x266005 = 0 then (if x266006 = 0 then (some (x266007 == 0)) else (some false)) else (some false)) else (some false)) else (some false)) else ((spec_ReqOk.f k x266000 x266001).bind fun t269 => (if t269 = true then (if x266003 = 0 then (spec_WarpOk.j1 k x1 true x266000 x266001 x266002 x266003 x266004 x266005 x266006 x266007) else (if x266004 < 0 then (spec_WarpOk.j1 k x1 true x266000 x266001 x266002 x266003 x266004 x266005 x266006 x266007) else (if x266005 < 0 then (spec_WarpOk.j1 k x1 true x266000 x266001 x266002 x266003 x266004 x266005 x266006 x266007) else (if x266006 < 0 then (spec_WarpOk.j1 k x1 true x266000 x266001 x266002 x266003 x266004 x266005 x266006 x266007) else (if x266005 > x1 then (spec_WarpOk.j1 k x1 true x266000 x266001 x266002 x266003 x266004 x266005 x266006 x266007) else (spec_WarpOk.j1 k x1 (decide (x266006 > 16)) x266000 x266001 x266002 x266003 x266004 x266005 x266006 x266007)))))) else (spec_WarpOk.j1 k x1 true x266000 x266001 x266002 x266003 x266004 x266005 x266006 x266007))))
def spec_WarpOk.j1 : Nat → Int → Bool → Int → List Int → List Int → Int → Int → Int → Int → Int → Option (Bool)
 | 0, _, _, _, _, _, _, _, _, _, _ => none
 | k + 1, x1, x99, x266000, x266001, x266002, x266003, x266004, x266005, x266006, x266007 => if x99 = true then (some false) else ((spec_l07Asks.f k x266000 x266001).bind fun t270 => ((spec_BitList.f k x266003).bind fun t273 => (spec_WarpOk.l0 k x1 t270 t273 0 x266000 x266001 x266002 x266003 x266004 x266005 x266006 x266007)))
def spec_WarpOk.l0 : Nat → Int → List Int → List Int → Int → Int → List Int → List Int → Int → Int → Int → Int → Int → Option (Bool)
 | 0, _, _, _, _, _, _, _, _, _, _, _, _ => none
 | k + 1, x1, x5, x6, x7, x266000, x266001, x266002, x266003, x266004, x266005, x266006, x266007 => if x7 < (x6.length : Int) then (spec_WarpOk.l1 k x1 x5 x6 x7 false 0 x266000 x266001 x266002 x266003 x266004 x266005 x266006 x266007) else (if 0 < (x6.length : Int) then (if 0 ≤ (rd x6 0) then (if (rd x6 0) < (x266001.length : Int) then (if x266000 = 1 then (spec_WarpOk.j4 k x1 (rd x266001 (rd x6 0)) (decide ((rd x266001 (rd x6 0)) > 16)) x266000 x266001 x266002 x266003 x266004 x266005 x266006 x266007) else (spec_WarpOk.j4 k x1 (rd x266001 (rd x6 0)) false x266000 x266001 x266002 x266003 x266004 x266005 x266006 x266007)) else (none)) else (none)) else (none))
def spec_WarpOk.l1 : Nat → Int → List Int → List Int → Int → Bool → Int → Int → List Int → List Int → Int → Int → Int → Int → Int → Option (Bool)
 | 0, _, _, _, _, _, _, _, _, _, _, _, _, _, _ => none
 | k + 1, x1, x5, x6, x7, x8, x9, x266000, x266001, x266002, x266003, x266004, x266005, x266006, x266007 => if x9 < (x5.length : Int) then (if x8 = true then (spec_WarpOk.l1 k x1 x5 x6 x7 true (wrap64 (x9 + 1)) x266000 x266001 x266002 x266003 x266004 x266005 x266006 x266007) else (if 0 ≤ x9 then (if 0 ≤ x7 then (if x7 < (x6.length : Int) then (spec_WarpOk.l1 k x1 x5 x6 x7 ((rd x5 x9) == (rd x6 x7)) (wrap64 (x9 + 1)) x266000 x266001 x266002 x266003 x266004 x266005 x266006 x266007) else (none)) else (none)) else (none))) else (if x8 = true then (spec_WarpOk.l0 k x1 x5 x6 (wrap64 (x7 + 1)) x266000 x266001 x266002 x266003 x266004 x266005 x266006 x266007) else (some false))
def spec_WarpOk.j4 : Nat → Int → Int → Bool → Int → List Int → List Int → Int → Int → Int → Int → Int → Option (Bool)
 | 0, _, _, _, _, _, _, _, _, _, _, _ => none
 | k + 1, x1, x10, x11, x266000, x266001, x266002, x266003, x266004, x266005, x266006, x266007 => if x266004 = 1 then (if x11 = true then (spec_WarpOk.j5 k x1 x10 x11 (x266007 != 0) x266000 x266001 x266002 x266003 x266004 x266005 x266006 x266007) else (spec_WarpOk.j5 k x1 x10 x11 false x266000 x266001 x266002 x266003 x266004 x266005 x266006 x266007)) else (spec_WarpOk.j5 k x1 x10 x11 (x266007 != 0) x266000 x266001 x266002 x266003 x266004 x266005 x266006 x266007)
def spec_WarpOk.j5 : Nat → Int → Int → Bool → Bool → Int → List Int → List Int → Int → Int → Int → Int → Int → Option (Bool)
 | 0, _, _, _, _, _, _, _, _, _, _, _, _ => none
 | k + 1, x1, x10, x11, x158, x266000, x266001, x266002, x266003, x266004, x266005, x266006, x266007 => if x158 = true then (some false) else (if x11 = true then ((spec_ChunksFor.f x10).bind fun t280 => ((spec_l07LargeOk.f k x266000 x266001 x266002 x266003 x266004 x266005 x266006 x266007 t280 x1).bind fun t281 => (some t281))) else (if x266000 = 1 then (if x266006 = 0 then (if x266004 = 0 then (some true) else (if x266004 = 1 then (if x266005 < x1 then ((spec_ClassOf.f k x10).bind fun t282 => ((spec_Room.f k x266007 t282).bind fun t283 => (some (decide (t283 > 0))))) else (some false)) else (some false))) else (some false)) else (if x266004 = 0 then (if x266005 = 0 then (some (x266006 == 0)) else (some false)) else (if x266004 = 1 then (if x266005 = 0 then (if x266006 = 0 then (if x10 < (wrap64 (16 * x1)) then ((spec_l07Gives.f k x266007 (Int.tmod x10 16)).bind fun t284 => (some t284)) else (some false)) else (some false)) else (some false)) else (if x266004 = 2 then (if x266006 > 0 then (some (decide ((wrap64 (x266005 + x266006)) ≤ x1))) else (some false)) else (some false))))))
end
def spec_WarpOk.f (k : Nat) (a0_0 : Int) (l0_1 : List Int) (l0_2 : List Int) (a0_3 : Int) (a0_4 : Int) (a0_5 : Int) (a0_6 : Int) (a0_7 : Int) (a1 : Int) : Option (Bool) := if a1 < 0 then (spec_WarpOk.j0 k a1 true a0_0 l0_1 l0_2 a0_3 a0_4 a0_5 a0_6 a0_7) else (if a1 > 16 then (spec_WarpOk.j0 k a1 true a0_0 l0_1 l0_2 a0_3 a0_4 a0_5 a0_6 a0_7) else ((spec_l03Row.f l0_1).bind fun t266 => (if t266 = true then ((spec_l03Row.f l0_2).bind fun t267 => (if t267 = true then ((spec_l03Mask.f k a0_3).bind fun t268 => (spec_WarpOk.j0 k a1 (!t268) a0_0 l0_1 l0_2 a0_3 a0_4 a0_5 a0_6 a0_7)) else (spec_WarpOk.j0 k a1 true a0_0 l0_1 l0_2 a0_3 a0_4 a0_5 a0_6 a0_7))) else (spec_WarpOk.j0 k a1 true a0_0 l0_1 l0_2 a0_3 a0_4 a0_5 a0_6 a0_7))))
theorem spec_WarpOk.mono_l : ∀ k, (∀ y0 y1 y2 y3 y4 y5 y6 y7 y8 y9, LeO (spec_WarpOk.j0 k y0 y1 y2 y3 y4 y5 y6 y7 y8 y9) (spec_WarpOk.j0 (k + 1) y0 y1 y2 y3 y4 y5 y6 y7 y8 y9)) ∧ (∀ y0 y1 y2 y3 y4 y5 y6 y7 y8 y9, LeO (spec_WarpOk.j1 k y0 y1 y2 y3 y4 y5 y6 y7 y8 y9) (spec_WarpOk.j1 (k + 1) y0 y1 y2 y3 y4 y5 y6 y7 y8 y9)) ∧ (∀ y0 y1 y2 y3 y4 y5 y6 y7 y8 y9 y10 y11, LeO (spec_WarpOk.l0 k y0 y1 y2 y3 y4 y5 y6 y7 y8 y9 y10 y11) (spec_WarpOk.l0 (k + 1) y0 y1 y2 y3 y4 y5 y6 y7 y8 y9 y10 y11)) ∧ (∀ y0 y1 y2 y3 y4 y5 y6 y7 y8 y9 y10 y11 y12 y13, LeO (spec_WarpOk.l1 k y0 y1 y2 y3 y4 y5 y6 y7 y8 y9 y10 y11 y12 y13) (spec_WarpOk.l1 (k + 1) y0 y1 y2 y3 y4 y5 y6 y7 y8 y9 y10 y11 y12 y13)) ∧ (∀ y0 y1 y2 y3 y4 y5 y6 y7 y8 y9 y10, LeO (spec_WarpOk.j4 k y0 y1 y2 y3 y4 y5 y6 y7 y8 y9 y10) (spec_WarpOk.j4 (k + 1) y0 y1 y2 y3 y4 y5 y6 y7 y8 y9 y10)) ∧ (∀ y0 y1 y2 y3 y4 y5 y6 y7 y8 y9 y10 y11, LeO (spec_WarpOk.j5 k y0 y1 y2 y3 y4 y5 y6 y7 y8 y9 y10 y11) (spec_WarpOk.j5 (k + 1) y0 y1 y2 y3 y4 y5 y6 y7 y8 y9 y10 y11))
 | 0 => ⟨fun _ _ _ _ _ _ _ _ _ _ r h => by simp [spec_WarpOk.j0] at h, fun _ _ _ _ _ _ _ _ _ _ r h => by simp [spec_WarpOk.j1] at h, fun _ _ _ _ _ _ _ _ _ _ _ _ r h => by simp [spec_WarpOk.l0] at h, fun _ _ _ _ _ _ _ _ _ _ _ _ _ _ r h => by simp [spec_WarpOk.l1] at h, fun _ _ _ _ _ _ _ _ _ _ _ r h => by simp [spec_WarpOk.j4] at h, fun _ _ _ _ _ _ _ _ _ _ _ _ r h => by simp [spec_WarpOk.j5] at h⟩
 | k + 1 => by
  obtain ⟨ih0, ih1, ih2, ih3, ih4, ih5⟩ := spec_WarpOk.mono_l k
  refine ⟨?_, ?_, ?_, ?_, ?_, ?_⟩
  ·intro y0 y1 y2 y3 y4 y5 y6 y7 y8 y9
   unfold spec_WarpOk.j0
   repeat' first
    | (with_reducible first | exact ih0 .. | exact ih1 .. | exact ih2 .. | exact ih3 .. | exact ih4 .. | exact ih5 .. | exact spec_BitList.mono .. | exact spec_ClassOf.mono .. | exact spec_ReqOk.mono .. | exact spec_Room.mono .. | exact spec_l03Mask.mono .. | exact spec_l07Asks.mono .. | exact spec_l07Gives.mono .. | exact spec_l07LargeOk.mono .. | exact LeO.refl _ | exact LeO.none _ | refine LeO.ite ?_ ?_ | refine LeO.bind ?_ (fun _ => ?_))
    | exact LeO.none _ | refine LeO.ite ?_ ?_ | refine LeO.bind ?_ (fun _ => ?_)
  ·intro y0 y1 y2 y3 y4 y5 y6 y7 y8 y9
   unfold spec_WarpOk.j1
   repeat' first
    | (with_reducible first | exact ih0 .. | exact ih1 .. | exact ih2 .. | exact ih3 .. | exact ih4 .. | exact ih5 .. | exact spec_BitList.mono .. | exact spec_ClassOf.mono .. | exact spec_ReqOk.mono .. | exact spec_Room.mono .. | exact spec_l03Mask.mono .. | exact spec_l07Asks.mono .. | exact spec_l07Gives.mono .. | exact spec_l07LargeOk.mono .. | exact LeO.refl _ | exact LeO.none _ | refine LeO.ite ?_ ?_ | refine LeO.bind ?_ (fun _ => ?_))
    | exact LeO.none _ | refine LeO.ite ?_ ?_ | refine LeO.bind ?_ (fun _ => ?_)
  ·intro y0 y1 y2 y3 y4 y5 y6 y7 y8 y9 y10 y11
   unfold spec_WarpOk.l0
   repeat' first
    | (with_reducible first | exact ih0 .. | exact ih1 .. | exact ih2 .. | exact ih3 .. | exact ih4 .. | exact ih5 .. | exact spec_BitList.mono .. | exact spec_ClassOf.mono .. | exact spec_ReqOk.mono .. | exact spec_Room.mono .. | exact spec_l03Mask.mono .. | exact spec_l07Asks.mono .. | exact spec_l07Gives.mono .. | exact spec_l07LargeOk.mono .. | exact LeO.refl _ | exact LeO.none _ | refine LeO.ite ?_ ?_ | refine LeO.bind ?_ (fun _ => ?_))
    | exact LeO.none _ | refine LeO.ite ?_ ?_ | refine LeO.bind ?_ (fun _ => ?_)
  ·intro y0 y1 y2 y3 y4 y5 y6 y7 y8 y9 y10 y11 y12 y13
   unfold spec_WarpOk.l1
   repeat' first
    | (with_reducible first | exact ih0 .. | exact ih1 .. | exact ih2 .. | exact ih3 .. | exact ih4 .. | exact ih5 .. | exact spec_BitList.mono .. | exact spec_ClassOf.mono .. | exact spec_ReqOk.mono .. | exact spec_Room.mono .. | exact spec_l03Mask.mono .. | exact spec_l07Asks.mono .. | exact spec_l07Gives.mono .. | exact spec_l07LargeOk.mono .. | exact LeO.refl _ | exact LeO.none _ | refine LeO.ite ?_ ?_ | refine LeO.bind ?_ (fun _ => ?_))
    | exact LeO.none _ | refine LeO.ite ?_ ?_ | refine LeO.bind ?_ (fun _ => ?_)
  ·intro y0 y1 y2 y3 y4 y5 y6 y7 y8 y9 y10
   unfold spec_WarpOk.j4
   repeat' first
    | (with_reducible first | exact ih0 .. | exact ih1 .. | exact ih2 .. | exact ih3 .. | exact ih4 .. | exact ih5 .. | exact spec_BitList.mono .. | exact spec_ClassOf.mono .. | exact spec_ReqOk.mono .. | exact spec_Room.mono .. | exact spec_l03Mask.mono .. | exact spec_l07Asks.mono .. | exact spec_l07Gives.mono .. | exact spec_l07LargeOk.mono .. | exact LeO.refl _ | exact LeO.none _ | refine LeO.ite ?_ ?_ | refine LeO.bind ?_ (fun _ => ?_))
    | exact LeO.none _ | refine LeO.ite ?_ ?_ | refine LeO.bind ?_ (fun _ => ?_)
  ·intro y0 y1 y2 y3 y4 y5 y6 y7 y8 y9 y10 y11
   unfold spec_WarpOk.j5
   repeat' first
    | (with_reducible first | exact ih0 .. | exact ih1 .. | exact ih2 .. | exact ih3 .. | exact ih4 .. | exact ih5 .. | exact spec_BitList.mono .. | exact spec_ClassOf.mono .. | exact spec_ReqOk.mono .. | exact spec_Room.mono .. | exact spec_l03Mask.mono .. | exact spec_l07Asks.mono .. | exact spec_l07Gives.mono .. | exact spec_l07LargeOk.mono .. | exact LeO.refl _ | exact LeO.none _ | refine LeO.ite ?_ ?_ | refine LeO.bind ?_ (fun _ => ?_))
    | exact LeO.none _ | refine LeO.ite ?_ ?_ | refine LeO.bind ?_ (fun _ => ?_)
theorem spec_WarpOk.mono : ∀ a0 a1 a2 a3 a4 a5 a6 a7 a8 k, LeO (spec_WarpOk.f k a0 a1 a2 a3 a4 a5 a6 a7 a8) (spec_WarpOk.f (k + 1) a0 a1 a2 a3 a4 a5 a6 a7 a8) := by
 intro a0 a1 a2 a3 a4 a5 a6 a7 a8 k
 obtain ⟨ih0, ih1, ih2, ih3, ih4, ih5⟩ := spec_WarpOk.mono_l k
 unfold spec_WarpOk.f
 repeat' first
  | (with_reducible first | exact ih0 .. | exact ih1 .. | exact ih2 .. | exact ih3 .. | exact ih4 .. | exact ih5 .. | exact spec_BitList.mono .. | exact spec_ClassOf.mono .. | exact spec_ReqOk.mono .. | exact spec_Room.mono .. | exact spec_l03Mask.mono .. | exact spec_l07Asks.mono .. | exact spec_l07Gives.mono .. | exact spec_l07LargeOk.mono .. | exact LeO.refl _ | exact LeO.none _ | refine LeO.ite ?_ ?_ | refine LeO.bind ?_ (fun _ => ?_))
  | exact LeO.none _ | refine LeO.ite ?_ ?_ | refine LeO.bind ?_ (fun _ => ?_)
def spec_WarpOk.T16 : Bool × List (List Nat × List Nat) := (true, [([], []), ([0], [0]), ([1], [1]), ([1], [1]), ([2, 3, 1], [1, 2, 3]), ([4, 1], [1, 4]), ([1], [1]), ([1], [1]), ([6, 7, 1], [1, 6, 7]), ([8, 1], [1, 8]), ([5, 9, 1], [1, 5, 9]), ([1, 10], [1, 10]), ([11, 1, 0, 1, 2, 3, 4, 5, 6, 7, 8, 9, 10, 11], [0, 11])])
def spec_WarpOk.B16 : List Nat := [0, 1, 3, 3, 15, 31, 3, 3, 195, 451, 1023, 2047, 4095]
theorem spec_WarpOk.tab16 : rtab .any (opsOf Tryz.f27 16) = spec_WarpOk.T16 := kr
theorem spec_WarpOk.bits16 : waitsOk spec_WarpOk.T16.2 spec_WarpOk.B16 = true := kr
def spec_WarpOk.T19 : Bool × List (List Nat × List Nat) := (true, [([], []), ([0], [0]), ([], []), ([2], [2]), ([3], [3]), ([1, 4], [1, 4]), ([5], [5]), ([6, 0, 1, 2, 3, 4, 5, 6], [6])])
def spec_WarpOk.B19 : List Nat := [0, 1, 0, 4, 12, 31, 63, 127]
theorem spec_WarpOk.tab19 : rtab .any (opsOf Tryz.f27 19) = spec_WarpOk.T19 := kr
theorem spec_WarpOk.bits19 : waitsOk spec_WarpOk.T19.2 spec_WarpOk.B19 = true := kr
def spec_WarpOk.T26 : Bool × List (List Nat × List Nat) := (true, [([], []), ([0], [0]), ([1], [1]), ([2], [2]), ([3], [3]), ([4, 3], [3, 4]), ([5, 3], [3, 5]), ([6, 3, 3], [3, 6]), ([7], [7]), ([8, 7], [7, 8]), ([9, 7], [7, 9]), ([10, 7, 7], [7, 10]), ([11], [11]), ([12, 11], [11, 12]), ([11], [11]), ([13, 14, 11], [11, 13, 14]), ([11, 15, 7], [7, 11, 15]), ([16, 11, 7], [7, 16]), ([17], [17]), ([18, 17], [17, 18]), ([17], [17]), ([20, 17, 17], [17, 20]), ([19, 21, 21, 17], [17, 19, 21]), ([22, 17], [17, 22]), ([17, 23, 7], [7, 17, 23]), ([7, 24, 3], [3, 7, 24]), ([3, 25], [3, 25]), ([26, 22, 0, 1, 2, 3, 4, 5, 6, 7, 8, 9, 10, 11, 12, 13, 14, 15, 16, 17, 18, 19, 20, 21, 22, 23, 24, 25, 26], [26])])
def spec_WarpOk.B26 : List Nat := [0, 1, 3, 7, 15, 31, 63, 127, 255, 511, 1023, 2047, 4095, 8191, 4095, 32767, 65535, 131071, 262143, 524287, 262143, 1310719, 4194303, 8388607, 16777215, 33554431, 67108863, 134217727]
theorem spec_WarpOk.tab26 : rtab .any (opsOf Tryz.f27 26) = spec_WarpOk.T26 := kr
theorem spec_WarpOk.bits26 : waitsOk spec_WarpOk.T26.2 spec_WarpOk.B26 = true := kr
set_option maxHeartbeats 8000000 in
set_option maxRecDepth 100000 in
theorem spec_WarpOk.calls (k : Nat) (a0_0 : Int) (A0_1 : Option Addr) (c0_1 : Nat) (l0_1 : List Int) (A0_2 : Option Addr) (c0_2 : Nat) (l0_2 : List Int) (a0_3 : Int) (a0_4 : Int) (a0_5 : Int) (a0_6 : Int) (a0_7 : Int) (a1 : Int) (r : Bool) (w : World) (hr0_1 : Kd.C (Kd.int .i64) w A0_1 l0_1.length l0_1) (hc0_1 : l0_1.length ≤ c0_1) (hr0_2 : Kd.C (Kd.int .i64) w A0_2 l0_2.length l0_2) (hc0_2 : l0_2.length ≤ c0_2) (h : spec_WarpOk.f k a0_0 l0_1 l0_2 a0_3 a0_4 a0_5 a0_6 a0_7 a1 = some r) :
  Calls Tryz.prog 27 #[.agg #[.int .i64 a0_0, .slice A0_1 l0_1.length c0_1, .slice A0_2 l0_2.length c0_2, .int .u32 a0_3, .int .i64 a0_4, .int .i64 a0_5, .int .i64 a0_6, .int .u32 a0_7], .int .i64 a1] w fun e w' => e = .returned (.bool r) ∧ Below w.heap.size w w' := by
 have hu59 := Tryz.underlying59
 have hu77 := Tryz.underlying77
 have HR0_1 := Aside0.mk hr0_1
 have HC0_1 := Aside0.mk hc0_1
 clear hr0_1 hc0_1
 have HR0_2 := Aside0.mk hr0_2
 have HC0_2 := Aside0.mk hc0_2
 clear hr0_2 hc0_2
 have HB := Aside0.mk (Below.refl w.heap.size w)
 unfold spec_WarpOk.f at h
 have H := h
 clear h
 have HC3 := Aside0.mk H
 clear H
 go_enter Tryz.func27, Tryz.ntmps27
 go_upto_region 1 with (first | ((with_reducible refine gd 2 ?_); refine bx 2 59 #[.int .i64 a0_0, .slice A0_1 l0_1.length c0_1, .slice A0_2 l0_2.length c0_2, .int .u32 a0_3, .int .i64 a0_4, .int .i64 a0_5, .int .i64 a0_6, .int .u32 a0_7] ?_; clear HB; intro gb265 w4 hg BK265 hb GE265 HB; clear hb hg))
 (try refine ap ?_)
 go_cut [35] (fun v35 wc => ∃ (kq : Nat) (x35_2 : Bool), v35 = .bool x35_2 ∧ Aside0 (spec_WarpOk.j0 kq a1 x35_2 a0_0 l0_1 l0_2 a0_3 a0_4 a0_5 a0_6 a0_7 = some r) ∧ Aside0 (kq ≤ k) ∧ Aside0 (wc.heap[gb265]? = some (.cells #[.int .i64 a0_0, (.slice A0_1 l0_1.length c0_1), (.slice A0_2 l0_2.length c0_2), .int .u32 a0_3, .int .i64 a0_4, .int .i64 a0_5, .int .i64 a0_6, .int .u32 a0_7] 59 (0, 0))) ∧ Aside0 (Below w.heap.size w wc))
 case first => as_aux_lemma =>
  have H := HC3.out
  clear HC3
  replace H := ilt H
  rcases H with ⟨c5b0, H⟩ | ⟨c5b0, H⟩
  ·(first | rw [c5b0] | (simp only [i64_w, i32_w]; rw [c5b0]) | (simp only [c5b2, Bool.not_true, Bool.not_false]) | (simp only [c5b1, Bool.not_true, Bool.not_false]) | skip)
   have H' := Aside0.mk H
   clear H
   go_wp2
   go_meet
   case rel => exact ⟨_, (true), ev, H', ⟨om⟩, ⟨bk BK265⟩, ⟨bw⟩⟩
  ·(first | rw [c5b0] | (simp only [i64_w, i32_w]; rw [c5b0]) | (simp only [c5b2, Bool.not_true, Bool.not_false]) | (simp only [c5b1, Bool.not_true, Bool.not_false]) | skip)
   replace H := igt H
   rcases H with ⟨c6b0, H⟩ | ⟨c6b0, H⟩
   ·have H' := Aside0.mk H
    clear H
    go_wp2
    go_meet
    case rel => exact ⟨_, (true), ev, H', ⟨om⟩, ⟨bk BK265⟩, ⟨bw⟩⟩
   ·replace H := bn H
    obtain ⟨t266, A7, H⟩ := H
    try dsimp only at H
    replace H := ib H
    rcases H with ⟨rfl, H⟩ | ⟨rfl, H⟩
    ·replace H := bn H
     obtain ⟨t267, A9, H⟩ := H
     try dsimp only at H
     replace H := ib H
     rcases H with ⟨rfl, H⟩ | ⟨rfl, H⟩
     ·replace H := bn H
      obtain ⟨t268, A11, H⟩ := H
      try dsimp only at H
      have H' := Aside0.mk H
      clear H
      obtain ⟨z12_0, z12_1, z12_2, z12_3, z12_4, z12_5, z12_6, z12_7⟩ := ca8 BK265
      obtain ⟨f12_0, f12_1, f12_2, f12_3, f12_4, f12_5, f12_6, f12_7⟩ := fa8 BK265
      go_wp2_with (first | (go_at_call 44; (with_reducible refine (spec_l03Row.calls _ _ _ _ _ ?side1 ?side2 A7.out).mono ?_); (case side1 => repeat (first | exact (Kd.C_below HR0_1.out HB.out) | (with_reducible refine Kd.C_alloc ?_ _) | (with_reducible refine Kd.C_drewN ?_ _) | (with_reducible refine Kd.C_drew ?_))); (case side2 => exact HC0_1.out); rintro e w' ⟨rfl, ⟨nd, rfl⟩⟩) | (go_at_call 44; (with_reducible refine (spec_l03Row.calls _ _ _ _ _ ?side1 ?side2 A9.out).mono ?_); (case side1 => repeat (first | exact (Kd.C_below HR0_2.out bw) | (with_reducible refine Kd.C_alloc ?_ _) | (with_reducible refine Kd.C_drewN ?_ _) | (with_reducible refine Kd.C_drew ?_))); (case side2 => exact HC0_2.out); rintro e w' ⟨rfl, ⟨nd, rfl⟩⟩) | (go_at_call 45; (with_reducible refine (spec_l03Mask.calls _ _ _ _ A11.out).mono ?_); rintro e w13 ⟨rfl, hb⟩; replace BK265 := b_ BK265 hb; replace HB := hs hb; try clear hb))
      go_meet
      case rel => exact ⟨_, (!t268), ev, H', ⟨om⟩, ⟨bk BK265⟩, ⟨bw⟩⟩
     ·have H' := Aside0.mk H
      clear H
      obtain ⟨z14_0, z14_1, z14_2, z14_3, z14_4, z14_5, z14_6, z14_7⟩ := ca8 BK265
      obtain ⟨f14_0, f14_1, f14_2, f14_3, f14_4, f14_5, f14_6, f14_7⟩ := fa8 BK265
      go_wp2_with (first | (go_at_call 44; (with_reducible refine (spec_l03Row.calls _ _ _ _ _ ?side1 ?side2 A7.out).mono ?_); (case side1 => repeat (first | exact (Kd.C_below HR0_1.out HB.out) | (with_reducible refine Kd.C_alloc ?_ _) | (with_reducible refine Kd.C_drewN ?_ _) | (with_reducible refine Kd.C_drew ?_))); (case side2 => exact HC0_1.out); rintro e w' ⟨rfl, ⟨nd, rfl⟩⟩) | (go_at_call 44; (with_reducible refine (spec_l03Row.calls _ _ _ _ _ ?side1 ?side2 A9.out).mono ?_); (case side1 => repeat (first | exact (Kd.C_below HR0_2.out bw) | (with_reducible refine Kd.C_alloc ?_ _) | (with_reducible refine Kd.C_drewN ?_ _) | (with_reducible refine Kd.C_drew ?_))); (case side2 => exact HC0_2.out); rintro e w' ⟨rfl, ⟨nd, rfl⟩⟩))
      go_meet
      case rel => exact ⟨_, (true), ev, H', ⟨om⟩, ⟨bk BK265⟩, ⟨bw⟩⟩
    ·have H' := Aside0.mk H
     clear H
     obtain ⟨z15_0, z15_1, z15_2, z15_3, z15_4, z15_5, z15_6, z15_7⟩ := ca8 BK265
     obtain ⟨f15_0, f15_1, f15_2, f15_3, f15_4, f15_5, f15_6, f15_7⟩ := fa8 BK265
     go_wp2_with (first | (go_at_call 44; (with_reducible refine (spec_l03Row.calls _ _ _ _ _ ?side1 ?side2 A7.out).mono ?_); (case side1 => repeat (first | exact (Kd.C_below HR0_1.out HB.out) | (with_reducible refine Kd.C_alloc ?_ _) | (with_reducible refine Kd.C_drewN ?_ _) | (with_reducible refine Kd.C_drew ?_))); (case side2 => exact HC0_1.out); rintro e w' ⟨rfl, ⟨nd, rfl⟩⟩))
     go_meet
     case rel => exact ⟨_, (true), ev, H', ⟨om⟩, ⟨bk BK265⟩, ⟨bw⟩⟩
 case rest => as_aux_lemma =>
  clear HC3
  obtain ⟨kq, x35_2, rfl, HA, HJ2, BK265, HB⟩ := hcut
  cases kq with
  | zero => exact absurd HA.out (by simp [spec_WarpOk.j0])
  | succ kj2 =>
   have H := HA.out
   clear HA
   simp only [spec_WarpOk.j0] at H
   replace H := ib H
   rcases H with ⟨rfl, H⟩ | ⟨rfl, H⟩
   ·obtain rfl := Option.some.inj H
    go_wp2
    go_ret
    exact ⟨rt, bw⟩
   ·replace H := ieq H
    rcases H with ⟨c17b0, c17b1, H⟩ | ⟨c17, c17b0, c17b1, H⟩
    ·replace H := ieq H
     rcases H with ⟨c18b0, c18b1, H⟩ | ⟨c18, c18b0, c18b1, H⟩
     ·replace H := ieq H
      rcases H with ⟨c19b0, c19b1, H⟩ | ⟨c19, c19b0, c19b1, H⟩
      ·replace H := ieq H
       rcases H with ⟨c20b0, c20b1, H⟩ | ⟨c20, c20b0, c20b1, H⟩
       ·replace H := ieq H
        rcases H with ⟨c21b0, c21b1, H⟩ | ⟨c21, c21b0, c21b1, H⟩
        ·obtain rfl := Option.some.inj H
         obtain ⟨z22_0, z22_1, z22_2, z22_3, z22_4, z22_5, z22_6, z22_7⟩ := ca8 BK265
         obtain ⟨f22_0, f22_1, f22_2, f22_3, f22_4, f22_5, f22_6, f22_7⟩ := fa8 BK265
         go_wp2
         go_ret
         exact ⟨rt, bw⟩
        ·obtain rfl := Option.some.inj H
         obtain ⟨z23_0, z23_1, z23_2, z23_3, z23_4, z23_5, z23_6, z23_7⟩ := ca8 BK265
         obtain ⟨f23_0, f23_1, f23_2, f23_3, f23_4, f23_5, f23_6, f23_7⟩ := fa8 BK265
         go_wp2
         go_ret
         exact ⟨rt, bw⟩
       ·obtain rfl := Option.some.inj H
        obtain ⟨z24_0, z24_1, z24_2, z24_3, z24_4, z24_5, z24_6, z24_7⟩ := ca8 BK265
        obtain ⟨f24_0, f24_1, f24_2, f24_3, f24_4, f24_5, f24_6, f24_7⟩ := fa8 BK265
        go_wp2
        go_ret
        exact ⟨rt, bw⟩
      ·obtain rfl := Option.some.inj H
       obtain ⟨z25_0, z25_1, z25_2, z25_3, z25_4, z25_5, z25_6, z25_7⟩ := ca8 BK265
       obtain ⟨f25_0, f25_1, f25_2, f25_3, f25_4, f25_5, f25_6, f25_7⟩ := fa8 BK265
       go_wp2
       go_ret
       exact ⟨rt, bw⟩
     ·obtain rfl := Option.some.inj H
      obtain ⟨z26_0, z26_1, z26_2, z26_3, z26_4, z26_5, z26_6, z26_7⟩ := ca8 BK265
      obtain ⟨f26_0, f26_1, f26_2, f26_3, f26_4, f26_5, f26_6, f26_7⟩ := fa8 BK265
      go_wp2
      go_ret
      exact ⟨rt, bw⟩
    ·have HC27 := Aside0.mk H
     clear H
     obtain ⟨z28_0, z28_1, z28_2, z28_3, z28_4, z28_5, z28_6, z28_7⟩ := ca8 BK265
     obtain ⟨f28_0, f28_1, f28_2, f28_3, f28_4, f28_5, f28_6, f28_7⟩ := fa8 BK265
     go_upto_region 5 with (fail)
     go_cut [99] (fun v99 wc => ∃ (kq : Nat) (x99_26 : Bool), v99 = .bool x99_26 ∧ Aside0 (spec_WarpOk.j1 kq a1 x99_26 a0_0 l0_1 l0_2 a0_3 a0_4 a0_5 a0_6 a0_7 = some r) ∧ Aside0 (kq ≤ kj2) ∧ Aside0 (wc.heap[gb265]? = some (.cells #[.int .i64 a0_0, (.slice A0_1 l0_1.length c0_1), (.slice A0_2 l0_2.length c0_2), .int .u32 a0_3, .int .i64 a0_4, .int .i64 a0_5, .int .i64 a0_6, .int .u32 a0_7] 59 (0, 0))) ∧ Aside0 (Below w.heap.size w wc))
     case first => as_aux_lemma =>
      have H := HC27.out
      clear HC27
      replace H := bn H
      obtain ⟨t269, A29, H⟩ := H
      try dsimp only at H
      replace H := ib H
      rcases H with ⟨rfl, H⟩ | ⟨rfl, H⟩
      ·(try simp only [Bool.not_true, Bool.not_false])
       replace H := ieq H
       rcases H with ⟨c31b0, c31b1, H⟩ | ⟨c31, c31b0, c31b1, H⟩
       ·have H' := Aside0.mk H
        clear H
        obtain ⟨z32_0, z32_1, z32_2, z32_3, z32_4, z32_5, z32_6, z32_7⟩ := ca8 BK265
        obtain ⟨f32_0, f32_1, f32_2, f32_3, f32_4, f32_5, f32_6, f32_7⟩ := fa8 BK265
        go_wp2_with (first | ((with_reducible refine gf 46 ?_); refine gc Tryz.func46 (some 67) (spec_ReqOk.calls _ _ A0_1 c0_1 _ _ _ (cb HR0_1) HC0_1.out A29.out) ?_; rintro e w33 ⟨rfl, hb⟩; refine ⟨_, rfl, ?_⟩; replace BK265 := b_ BK265 hb; replace HB := hs hb; try clear hb; obtain ⟨z34_0, z34_1, z34_2, z34_3, z34_4, z34_5, z34_6, z34_7⟩ := ca8 BK265; obtain ⟨f34_0, f34_1, f34_2, f34_3, f34_4, f34_5, f34_6, f34_7⟩ := fa8 BK265))
        go_meet
        case rel => exact ⟨_, (true), ev, H', ⟨by have := HJ2.out; first | omega | exact Nat.le_refl _⟩, ⟨bk BK265⟩, ⟨bw⟩⟩
       ·replace H := ilt H
        rcases H with ⟨c35b0, H⟩ | ⟨c35b0, H⟩
        ·have H' := Aside0.mk H
         clear H
         obtain ⟨z36_0, z36_1, z36_2, z36_3, z36_4, z36_5, z36_6, z36_7⟩ := ca8 BK265
         obtain ⟨f36_0, f36_1, f36_2, f36_3, f36_4, f36_5, f36_6, f36_7⟩ := fa8 BK265
         go_wp2_with (first | ((with_reducible refine gf 46 ?_); refine gc Tryz.func46 (some 67) (spec_ReqOk.calls _ _ A0_1 c0_1 _ _ _ (cb HR0_1) HC0_1.out A29.out) ?_; rintro e w37 ⟨rfl, hb⟩; refine ⟨_, rfl, ?_⟩; replace BK265 := b_ BK265 hb; replace HB := hs hb; try clear hb; obtain ⟨z38_0, z38_1, z38_2, z38_3, z38_4, z38_5, z38_6, z38_7⟩ := ca8 BK265; obtain ⟨f38_0, f38_1, f38_2, f38_3, f38_4, f38_5, f38_6, f38_7⟩ := fa8 BK265))
         go_meet
         case rel => exact ⟨_, (true), ev, H', ⟨by have := HJ2.out; first | omega | exact Nat.le_refl _⟩, ⟨bk BK265⟩, ⟨bw⟩⟩
        ·replace H := ilt H
         rcases H with ⟨c39b0, H⟩ | ⟨c39b0, H⟩
         ·have H' := Aside0.mk H
          clear H
          obtain ⟨z40_0, z40_1, z40_2, z40_3, z40_4, z40_5, z40_6, z40_7⟩ := ca8 BK265
          obtain ⟨f40_0, f40_1, f40_2, f40_3, f40_4, f40_5, f40_6, f40_7⟩ := fa8 BK265
          go_wp2_with (first | ((with_reducible refine gf 46 ?_); refine gc Tryz.func46 (some 67) (spec_ReqOk.calls _ _ A0_1 c0_1 _ _ _ (cb HR0_1) HC0_1.out A29.out) ?_; rintro e w41 ⟨rfl, hb⟩; refine ⟨_, rfl, ?_⟩; replace BK265 := b_ BK265 hb; replace HB := hs hb; try clear hb; obtain ⟨z42_0, z42_1, z42_2, z42_3, z42_4, z42_5, z42_6, z42_7⟩ := ca8 BK265; obtain ⟨f42_0, f42_1, f42_2, f42_3, f42_4, f42_5, f42_6, f42_7⟩ := fa8 BK265))
          go_meet
          case rel => exact ⟨_, (true), ev, H', ⟨by have := HJ2.out; first | omega | exact Nat.le_refl _⟩, ⟨bk BK265⟩, ⟨bw⟩⟩
         ·replace H := ilt H
          rcases H with ⟨c43b0, H⟩ | ⟨c43b0, H⟩
          ·have H' := Aside0.mk H
           clear H
           obtain ⟨z44_0, z44_1, z44_2, z44_3, z44_4, z44_5, z44_6, z44_7⟩ := ca8 BK265
           obtain ⟨f44_0, f44_1, f44_2, f44_3, f44_4, f44_5, f44_6, f44_7⟩ := fa8 BK265
           go_wp2_with (first | ((with_reducible refine gf 46 ?_); refine gc Tryz.func46 (some 67) (spec_ReqOk.calls _ _ A0_1 c0_1 _ _ _ (cb HR0_1) HC0_1.out A29.out) ?_; rintro e w45 ⟨rfl, hb⟩; refine ⟨_, rfl, ?_⟩; replace BK265 := b_ BK265 hb; replace HB := hs hb; try clear hb; obtain ⟨z46_0, z46_1, z46_2, z46_3, z46_4, z46_5, z46_6, z46_7⟩ := ca8 BK265; obtain ⟨f46_0, f46_1, f46_2, f46_3, f46_4, f46_5, f46_6, f46_7⟩ := fa8 BK265))
           go_meet
           case rel => exact ⟨_, (true), ev, H', ⟨by have := HJ2.out; first | omega | exact Nat.le_refl _⟩, ⟨bk BK265⟩, ⟨bw⟩⟩
          ·replace H := igt H
           rcases H with ⟨c47b0, H⟩ | ⟨c47b0, H⟩
           ·have H' := Aside0.mk H
            clear H
            obtain ⟨z48_0, z48_1, z48_2, z48_3, z48_4, z48_5, z48_6, z48_7⟩ := ca8 BK265
            obtain ⟨f48_0, f48_1, f48_2, f48_3, f48_4, f48_5, f48_6, f48_7⟩ := fa8 BK265
            go_wp2_with (first | ((with_reducible refine gf 46 ?_); refine gc Tryz.func46 (some 67) (spec_ReqOk.calls _ _ A0_1 c0_1 _ _ _ (cb HR0_1) HC0_1.out A29.out) ?_; rintro e w49 ⟨rfl, hb⟩; refine ⟨_, rfl, ?_⟩; replace BK265 := b_ BK265 hb; replace HB := hs hb; try clear hb; obtain ⟨z50_0, z50_1, z50_2, z50_3, z50_4, z50_5, z50_6, z50_7⟩ := ca8 BK265; obtain ⟨f50_0, f50_1, f50_2, f50_3, f50_4, f50_5, f50_6, f50_7⟩ := fa8 BK265))
            go_meet
            case rel => exact ⟨_, (true), ev, H', ⟨by have := HJ2.out; first | omega | exact Nat.le_refl _⟩, ⟨bk BK265⟩, ⟨bw⟩⟩
           ·have H' := Aside0.mk H
            clear H
            obtain ⟨z51_0, z51_1, z51_2, z51_3, z51_4, z51_5, z51_6, z51_7⟩ := ca8 BK265
            obtain ⟨f51_0, f51_1, f51_2, f51_3, f51_4, f51_5, f51_6, f51_7⟩ := fa8 BK265
            go_wp2_with (first | ((with_reducible refine gf 46 ?_); refine gc Tryz.func46 (some 67) (spec_ReqOk.calls _ _ A0_1 c0_1 _ _ _ (cb HR0_1) HC0_1.out A29.out) ?_; rintro e w52 ⟨rfl, hb⟩; refine ⟨_, rfl, ?_⟩; replace BK265 := b_ BK265 hb; replace HB := hs hb; try clear hb; obtain ⟨z53_0, z53_1, z53_2, z53_3, z53_4, z53_5, z53_6, z53_7⟩ := ca8 BK265; obtain ⟨f53_0, f53_1, f53_2, f53_3, f53_4, f53_5, f53_6, f53_7⟩ := fa8 BK265))
            go_meet
            case rel => exact ⟨_, (decide (a0_6 > 16)), ev, H', ⟨by have := HJ2.out; first | omega | exact Nat.le_refl _⟩, ⟨bk BK265⟩, ⟨bw⟩⟩
      ·(try simp only [Bool.not_true, Bool.not_false])
       have H' := Aside0.mk H
       clear H
       obtain ⟨z54_0, z54_1, z54_2, z54_3, z54_4, z54_5, z54_6, z54_7⟩ := ca8 BK265
       obtain ⟨f54_0, f54_1, f54_2, f54_3, f54_4, f54_5, f54_6, f54_7⟩ := fa8 BK265
       go_wp2_with (first | ((with_reducible refine gf 46 ?_); refine gc Tryz.func46 (some 67) (spec_ReqOk.calls _ _ A0_1 c0_1 _ _ _ (cb HR0_1) HC0_1.out A29.out) ?_; rintro e w55 ⟨rfl, hb⟩; refine ⟨_, rfl, ?_⟩; replace BK265 := b_ BK265 hb; replace HB := hs hb; try clear hb))
       go_meet
       case rel => exact ⟨_, (true), ev, H', ⟨by have := HJ2.out; first | omega | exact Nat.le_refl _⟩, ⟨bk BK265⟩, ⟨bw⟩⟩
     case rest => as_aux_lemma =>
      clear HC27
      try clear c16
      try clear c17
      try clear c17b0
      try clear c17b1
      (try clear z28_0 z28_1 z28_2 z28_3 z28_4 z28_5 z28_6 z28_7)
      (try clear f28_0 f28_1 f28_2 f28_3 f28_4 f28_5 f28_6 f28_7)
      obtain ⟨kq, x99_26, rfl, HA, HJ26, BK265, HB⟩ := hcut
      cases kq with
      | zero => exact absurd HA.out (by simp [spec_WarpOk.j1])
      | succ kj26 =>
       have H := HA.out
       clear HA
       simp only [spec_WarpOk.j1] at H
       replace H := ib H
       rcases H with ⟨rfl, H⟩ | ⟨rfl, H⟩
       ·obtain rfl := Option.some.inj H
        go_wp2
        go_ret
        exact ⟨rt, bw⟩
       ·replace H := bn H
        obtain ⟨t270, A57, H⟩ := H
        try dsimp only at H
        replace H := bn H
        obtain ⟨t273, A58, H⟩ := H
        try dsimp only at H
        have H' := Aside0.mk H
        clear H
        obtain ⟨z59_0, z59_1, z59_2, z59_3, z59_4, z59_5, z59_6, z59_7⟩ := ca8 BK265
        obtain ⟨f59_0, f59_1, f59_2, f59_3, f59_4, f59_5, f59_6, f59_7⟩ := fa8 BK265
        go_wp2_with (first | ((with_reducible refine gf 47 ?_); refine gc Tryz.func47 (some 104) (spec_l07Asks.calls _ _ A0_1 c0_1 _ _ _ (cb HR0_1) HC0_1.out A57.out) ?_; rintro e w60 ⟨v271, rfl, ho0, hb⟩; refine ⟨_, rfl, ?_⟩; have HO272 := Aside0.mk (Kd.R_lower ho0 (below_size bw)); replace BK265 := b_ BK265 hb; replace HB := hs hb; try clear hb; (try clear ho0); obtain ⟨z61_0, z61_1, z61_2, z61_3, z61_4, z61_5, z61_6, z61_7⟩ := ca8 BK265; obtain ⟨f61_0, f61_1, f61_2, f61_3, f61_4, f61_5, f61_6, f61_7⟩ := fa8 BK265) | ((with_reducible refine gf 48 ?_); refine gc Tryz.func48 (some 107) (spec_BitList.calls _ _ _ _ A58.out) ?_; rintro e w62 ⟨v274, rfl, ho0, hb⟩; refine ⟨_, rfl, ?_⟩; have HO275 := Aside0.mk (Kd.R_lower (Kd.R_new' ho0 (Kd.R_lt (ro HO272))) (below_size bw)); replace HO272 := Aside0.mk (Kd.R_elder' (ro HO272) (Kd.R_base ho0) hb); replace BK265 := b_ BK265 hb; replace HB := hs hb; try clear hb; (try clear ho0)))
        go_loopg [7] kj26 (fun kq v7 w' => ∃ (x7_3 : Int), v7 = .int .i64 x7_3 ∧ Aside0 (spec_WarpOk.l0 kq a1 t270 t273 x7_3 a0_0 l0_1 l0_2 a0_3 a0_4 a0_5 a0_6 a0_7 = some r) ∧ Aside0 (kq ≤ kj26) ∧ Aside0 (Kd.R (Kd.int .i64) 3 w' w.heap.size (fun k_ => some k_ ≠ (v274 : Value).ownBlock) v271 t270) ∧ Aside0 (Kd.R (Kd.int .i64) 3 w' w.heap.size (fun k_ => some k_ ≠ (v271 : Value).ownBlock) v274 t273) ∧ Aside0 (w'.heap[gb265]? = some (.cells #[.int .i64 a0_0, (.slice A0_1 l0_1.length c0_1), (.slice A0_2 l0_2.length c0_2), .int .u32 a0_3, .int .i64 a0_4, .int .i64 a0_5, .int .i64 a0_6, .int .u32 a0_7] 59 (0, 0))) ∧ Aside0 (Below w.heap.size w w'))
        case atStart => exact ⟨(0), ev, H', ⟨Nat.le_refl _⟩, ⟨by (with_reducible repeat (first | apply Kd.R_alloc | apply Kd.R_drewN | apply Kd.R_drew)); exact Kd.R_mono HO272.out (fun _ hk => hk.2)⟩, ⟨by (with_reducible repeat (first | apply Kd.R_alloc | apply Kd.R_drewN | apply Kd.R_drew)); exact Kd.R_mono HO275.out (fun _ hk => hk.2)⟩, ⟨bk BK265⟩, ⟨bw⟩⟩
        case round =>
         clear H'
         try clear c16
         try clear c17
         try clear c17b0
         try clear c17b1
         try clear c56
         (try clear z28_0 z28_1 z28_2 z28_3 z28_4 z28_5 z28_6 z28_7)
         (try clear z59_0 z59_1 z59_2 z59_3 z59_4 z59_5 z59_6 z59_7)
         (try clear z61_0 z61_1 z61_2 z61_3 z61_4 z61_5 z61_6 z61_7)
         (try clear f28_0 f28_1 f28_2 f28_3 f28_4 f28_5 f28_6 f28_7)
         (try clear f59_0 f59_1 f59_2 f59_3 f59_4 f59_5 f59_6 f59_7)
         (try clear f61_0 f61_1 f61_2 f61_3 f61_4 f61_5 f61_6 f61_7)
         obtain ⟨x7_3, rfl, HA, HK3, HO_5, HO_6, BK265, HB⟩ := hrel
         cases gk with
         | zero => exact absurd HA.out (by simp [spec_WarpOk.l0])
         | succ k3 =>
          have H := HA.out
          clear HA
          simp only [spec_WarpOk.l0] at H
          replace H := ilt H
          rcases H with ⟨c63b0, H⟩ | ⟨c63b0, H⟩
          ·have H' := Aside0.mk H
           clear H
           obtain ⟨Ao64, co64, eo64⟩ := Kd.R_slice HO_6.out
           subst eo64
           go_wp2
           go_loopg [8, 9] k3 (fun kq v8 v9 w' => ∃ (x8_4 : Bool) (x9_4 : Int), v8 = .bool x8_4 ∧ v9 = .int .i64 x9_4 ∧ Aside0 (spec_WarpOk.l1 kq a1 t270 t273 x7_3 x8_4 x9_4 a0_0 l0_1 l0_2 a0_3 a0_4 a0_5 a0_6 a0_7 = some r) ∧ Aside0 (kq ≤ k3) ∧ Aside0 (Kd.R (Kd.int .i64) 3 w' w.heap.size (fun k_ => some k_ ≠ ((.slice Ao64 t273.length co64) : Value).ownBlock) v271 t270) ∧ Aside0 (Kd.R (Kd.int .i64) 3 w' w.heap.size (fun k_ => some k_ ≠ (v271 : Value).ownBlock) (.slice Ao64 t273.length co64) t273) ∧ Aside0 (w'.heap[gb265]? = some (.cells #[.int .i64 a0_0, (.slice A0_1 l0_1.length c0_1), (.slice A0_2 l0_2.length c0_2), .int .u32 a0_3, .int .i64 a0_4, .int .i64 a0_5, .int .i64 a0_6, .int .u32 a0_7] 59 (0, 0))) ∧ Aside0 (Below w.heap.size w w'))
           case atStart => exact ⟨(false), (0), ev, ev, H', ⟨Nat.le_refl _⟩, ⟨ro HO_5⟩, ⟨ro HO_6⟩, ⟨bk BK265⟩, ⟨bw⟩⟩
           case round =>
            clear H'
            try clear c16
            try clear c17
            try clear c17b0
            try clear c17b1
            try clear c56
            try clear c63
            try clear c63b0
            (try clear z28_0 z28_1 z28_2 z28_3 z28_4 z28_5 z28_6 z28_7)
            (try clear z59_0 z59_1 z59_2 z59_3 z59_4 z59_5 z59_6 z59_7)
            (try clear z61_0 z61_1 z61_2 z61_3 z61_4 z61_5 z61_6 z61_7)
            (try clear f28_0 f28_1 f28_2 f28_3 f28_4 f28_5 f28_6 f28_7)
            (try clear f59_0 f59_1 f59_2 f59_3 f59_4 f59_5 f59_6 f59_7)
            (try clear f61_0 f61_1 f61_2 f61_3 f61_4 f61_5 f61_6 f61_7)
            obtain ⟨x8_4, x9_4, rfl, rfl, HA, HK4, HO_5, HO_6, BK265, HB⟩ := hrel
            cases gk with
            | zero => exact absurd HA.out (by simp [spec_WarpOk.l1])
            | succ k4 =>
             have H := HA.out
             clear HA
             simp only [spec_WarpOk.l1] at H
             replace H := ilt H
             rcases H with ⟨c65b0, H⟩ | ⟨c65b0, H⟩
             ·replace H := ib H
              rcases H with ⟨rfl, H⟩ | ⟨rfl, H⟩
              ·have H' := Aside0.mk H
               clear H
               obtain ⟨Ao67, co67, eo67⟩ := Kd.R_slice HO_5.out
               subst eo67
               try go_wp2
               replace HO_5 := Aside0.mk (Kd.R_drew HO_5.out)
               replace HO_6 := Aside0.mk (Kd.R_drew HO_6.out)
               replace BK265 := bd BK265
               replace HB := hd HB
               refine st 13 (fun w' => True) [] (trivial) spec_WarpOk.tab16 spec_WarpOk.bits16 ?_; intro hHeld HT_ HW_
               generalize wr.drew = w68 at HO_5 HO_6 BK265 HB hHeld ⊢
               refine pu 0 120 (bl 13 1) ?_
               refine pu 1 121 (bl 13 3) ?_
               refine pf 2 122 (bl 13 7) ?_
               refine pf 3 123 (bl 13 15) ?_
               refine pf 4 124 (bl 13 31) ?_
               refine pf 5 125 (bl 13 63) ?_
               refine pf 6 126 (bl 13 127) ?_
               refine pf 7 127 (bl 13 255) ?_
               refine pf 8 128 (bl 13 511) ?_
               refine pf 9 129 (bl 13 1023) ?_
               refine pf 10 130 (bl 13 2047) ?_
               refine pu 11 131 (bl 13 4095) ?_
               refine pu 12 8 (bl 13 8191) ?_
               refine dn ?_ _
               try go_wp2
               go_roundg k4
               case measure => have := HJ2.out; have := HJ26.out; have := HK3.out; have := HK4.out; omega
               case rel => exact ⟨(true), (wrap64 (x9_4 + 1)), ev, ev, H', ⟨by have := HJ2.out; have := HJ26.out; have := HK3.out; have := HK4.out; omega⟩, ⟨ro HO_5⟩, ⟨ro HO_6⟩, ⟨bk BK265⟩, ⟨bw⟩⟩
              ·by_cases c69 : 0 ≤ x9_4
               ·rw [if_pos c69] at H
                have c69b0 : decide (0 ≤ x9_4) = true := decide_eq_true c69
                clear c69
                by_cases c70 : 0 ≤ x7_3
                ·rw [if_pos c70] at H
                 have c70b0 : decide (0 ≤ x7_3) = true := decide_eq_true c70
                 clear c70
                 by_cases c71 : x7_3 < (t273.length : Int)
                 ·rw [if_pos c71] at H
                  have c71b0 : decide (x7_3 < (t273.length : Int)) = true := decide_eq_true c71
                  clear c71
                  have H' := Aside0.mk H
                  clear H
                  obtain ⟨Ao72, co72, eo72⟩ := Kd.R_slice HO_5.out
                  subst eo72
                  try go_wp2
                  replace HO_5 := Aside0.mk (Kd.R_drew HO_5.out)
                  replace HO_6 := Aside0.mk (Kd.R_drew HO_6.out)
                  replace BK265 := bd BK265
                  replace HB := hd HB
                  have p276 : 0 ≤ (x9_4 : Int) := of_decide_eq_true as_
                  have q276 : x9_4 < (t270.length : Int) := of_decide_eq_true as_
                  obtain ⟨ad276, e276, hx276_0⟩ := Kd.at_int (Kd.R_reads' HO_5.out).2.2 x9_4 p276 q276
                  cases e276
                  replace p276 := eq_true p276
                  replace q276 := eq_true q276
                  have p277 : 0 ≤ (x7_3 : Int) := of_decide_eq_true as_
                  have q277 : x7_3 < (t273.length : Int) := of_decide_eq_true as_
                  obtain ⟨ad277, e277, hx277_0⟩ := Kd.at_int (Kd.R_reads' HO_6.out).2.2 x7_3 p277 q277
                  cases e277
                  replace p277 := eq_true p277
                  replace q277 := eq_true q277
                  refine st 13 (fun w' => w'.cell? (ad276.add (x9_4).toNat) = some (.int .i64 (rd t270 x9_4)) ∧ w'.cell? (ad277.add (x7_3).toNat) = some (.int .i64 (rd t273 x7_3))) [] ⟨hx276_0, hx277_0⟩ spec_WarpOk.tab16 spec_WarpOk.bits16 ?_; intro hHeld HT_ HW_
                  generalize wr.drew = w73 at HO_5 HO_6 BK265 HB hx276_0 hx277_0 hHeld ⊢
                  refine pu 0 120 (bl 13 1) ?_
                  refine pu 1 121 (bl 13 3) ?_
                  refine pu 2 122 (bl 13 7) ?_
                  refine pu 3 123 (bl 13 15) ?_
                  refine pu 4 124 (bl 13 31) ?_
                  refine pu 6 126 (bl 13 95) ?_
                  refine pu 7 127 (bl 13 223) ?_
                  refine pu 8 128 (bl 13 479) ?_
                  refine tk 5 125 (bl 13 511) ?_
                  refine tk 9 129 (bl 13 1023) ?_
                  refine pu 10 130 (bl 13 2047) ?_
                  refine pu 11 131 (bl 13 4095) ?_
                  refine pu 12 8 (bl 13 8191) ?_
                  refine dn ?_ _
                  try go_wp2
                  go_roundg k4
                  case measure => have := HJ2.out; have := HJ26.out; have := HK3.out; have := HK4.out; omega
                  case rel => exact ⟨(((rd t270 x9_4) == (rd t273 x7_3))), (wrap64 (x9_4 + 1)), ev, ev, H', ⟨by have := HJ2.out; have := HJ26.out; have := HK3.out; have := HK4.out; omega⟩, ⟨ro HO_5⟩, ⟨ro HO_6⟩, ⟨bk BK265⟩, ⟨bw⟩⟩
                 ·rw [if_neg c71] at H
                  exact absurd H (by simp)
                ·rw [if_neg c70] at H
                 exact absurd H (by simp)
               ·rw [if_neg c69] at H
                exact absurd H (by simp)
             ·replace H := ib H
              rcases H with ⟨rfl, H⟩ | ⟨rfl, H⟩
              ·have H' := Aside0.mk H
               clear H
               obtain ⟨Ao75, co75, eo75⟩ := Kd.R_slice HO_5.out
               subst eo75
               go_wp2
               go_roundg k4
               case measure => have := HJ2.out; have := HJ26.out; have := HK3.out; have := HK4.out; omega
               case rel => exact ⟨(wrap64 (x7_3 + 1)), ev, H', ⟨by have := HJ2.out; have := HJ26.out; have := HK3.out; have := HK4.out; omega⟩, ⟨ro HO_5⟩, ⟨ro HO_6⟩, ⟨bk BK265⟩, ⟨bw⟩⟩
              ·obtain rfl := Option.some.inj H
               obtain ⟨Ao76, co76, eo76⟩ := Kd.R_slice HO_5.out
               subst eo76
               go_wp2
               go_ret
               exact ⟨rt, bw⟩
          ·by_cases c77 : 0 < (t273.length : Int)
           ·rw [if_pos c77] at H
            have c77b0 : decide (0 < (t273.length : Int)) = true := decide_eq_true c77
            have c77b1 : decide (0 < t273.length) = true := decide_eq_true (by omega)
            clear c77
            by_cases c78 : 0 ≤ (rd t273 0)
            ·rw [if_pos c78] at H
             have c78b0 : decide (0 ≤ (rd t273 0)) = true := decide_eq_true c78
             clear c78
             by_cases c79 : (rd t273 0) < (l0_1.length : Int)
             ·rw [if_pos c79] at H
              have c79b0 : decide ((rd t273 0) < (l0_1.length : Int)) = true := decide_eq_true c79
              clear c79
              have HC80 := Aside0.mk H
              clear H
              obtain ⟨Ao81, co81, eo81⟩ := Kd.R_slice HO_6.out
              subst eo81
              try go_wp2
              replace HO_5 := Aside0.mk (Kd.R_drew HO_5.out)
              replace HO_6 := Aside0.mk (Kd.R_drew HO_6.out)
              replace BK265 := bd BK265
              replace HB := hd HB
              have p278 : 0 ≤ (0 : Int) := (by omega)
              have q278 : 0 < (t273.length : Int) := of_decide_eq_true as_
              obtain ⟨ad278, e278, hx278_0⟩ := Kd.at_int (Kd.R_reads' HO_6.out).2.2 0 p278 q278
              cases e278
              have qi278 : (0 < t273.length) = True := eq_true (by omega)
              (try rw [show ((0 : Int)).toNat = 0 from rfl] at hx278_0)
              (try rw [Addr.add_zero'] at hx278_0)
              replace p278 := eq_true p278
              replace q278 := eq_true q278
              obtain ⟨ad279, e279, hw279_0, hx279_0, p279, q279⟩ := ri HR0_1 HB (rd t273 0)
              cases e279
              refine st 8 (fun w' => CA w' gb265 0 [.int .i64 a0_0, .slice (some ad279) l0_1.length c0_1, .slice A0_2 l0_2.length c0_2, .int .u32 a0_3, .int .i64 a0_4, .int .i64 a0_5, .int .i64 a0_6, .int .u32 a0_7] ∧ w'.cell? ad278 = some (.int .i64 (rd t273 0)) ∧ w'.cell? (ad279.add ((rd t273 0)).toNat) = some (.int .i64 (rd l0_1 (rd t273 0)))) [] ⟨cx BK265, hx278_0, (cl HB hw279_0 :)⟩ spec_WarpOk.tab19 spec_WarpOk.bits19 ?_; intro hHeld HT_ HW_
              generalize wr.drew = w82 at HO_5 HO_6 BK265 HB hx278_0 hx279_0 hHeld ⊢
              refine pu 0 134 (bl 8 1) ?_
              refine pu 2 136 (bl 8 5) ?_
              refine pu 3 137 (bl 8 13) ?_
              refine tk 1 135 (bl 8 15) ?_
              refine tk 4 138 (bl 8 31) ?_
              refine pu 5 139 (bl 8 63) ?_
              refine tk 6 140 (bl 8 127) ?_
              refine pu 7 10 (bl 8 255) ?_
              refine dn ?_ _
              go_upto_region 20 with (fail)
              go_cut [11] (fun v11 wc => ∃ (kq : Nat) (x11_79 : Bool), v11 = .bool x11_79 ∧ Aside0 (spec_WarpOk.j4 kq a1 (rd l0_1 (rd t273 0)) x11_79 a0_0 l0_1 l0_2 a0_3 a0_4 a0_5 a0_6 a0_7 = some r) ∧ Aside0 (kq ≤ k3) ∧ Aside0 (wc.heap[gb265]? = some (.cells #[.int .i64 a0_0, (.slice (some ad279) l0_1.length c0_1), (.slice A0_2 l0_2.length c0_2), .int .u32 a0_3, .int .i64 a0_4, .int .i64 a0_5, .int .i64 a0_6, .int .u32 a0_7] 59 (0, 0))) ∧ Aside0 (Below w.heap.size w wc))
              case first => as_aux_lemma =>
               have H := HC80.out
               clear HC80
               replace H := ieq H
               rcases H with ⟨c83b0, c83b1, H⟩ | ⟨c83, c83b0, c83b1, H⟩
               ·(first | rw [c83b0] | (simp only [i64_w, i32_w]; rw [c83b0]) | (simp only [c83b2, Bool.not_true, Bool.not_false]) | (simp only [c83b1, Bool.not_true, Bool.not_false]) | skip)
                have H' := Aside0.mk H
                clear H
                obtain ⟨z84_0, z84_1, z84_2, z84_3, z84_4, z84_5, z84_6, z84_7⟩ := ca8 BK265
                obtain ⟨f84_0, f84_1, f84_2, f84_3, f84_4, f84_5, f84_6, f84_7⟩ := fa8 BK265
                go_wp2
                go_meet
                case rel => exact ⟨_, (decide ((rd l0_1 (rd t273 0)) > 16)), ev, H', ⟨by have := HJ2.out; have := HJ26.out; have := HK3.out; first | omega | exact Nat.le_refl _⟩, ⟨bk BK265⟩, ⟨bw⟩⟩
               ·(first | rw [c83b0] | (simp only [i64_w, i32_w]; rw [c83b0]) | (simp only [c83b2, Bool.not_true, Bool.not_false]) | (simp only [c83b1, Bool.not_true, Bool.not_false]) | skip)
                have H' := Aside0.mk H
                clear H
                obtain ⟨z85_0, z85_1, z85_2, z85_3, z85_4, z85_5, z85_6, z85_7⟩ := ca8 BK265
                obtain ⟨f85_0, f85_1, f85_2, f85_3, f85_4, f85_5, f85_6, f85_7⟩ := fa8 BK265
                go_wp2
                go_meet
                case rel => exact ⟨_, (false), ev, H', ⟨by have := HJ2.out; have := HJ26.out; have := HK3.out; first | omega | exact Nat.le_refl _⟩, ⟨bk BK265⟩, ⟨bw⟩⟩
              case rest => as_aux_lemma =>
               clear HC80
               try clear c63
               try clear c63b0
               try clear c77
               try clear c77b0
               try clear c77b1
               try clear c78
               try clear c78b0
               try clear c79
               try clear c79b0
               (try clear f28_0 f28_1 f28_2 f28_3 f28_4 f28_5 f28_6 f28_7)
               (try clear f59_0 f59_1 f59_2 f59_3 f59_4 f59_5 f59_6 f59_7)
               (try clear f61_0 f61_1 f61_2 f61_3 f61_4 f61_5 f61_6 f61_7)
               try clear hx278_0
               try clear hx279_0
               try clear p278
               try clear p279
               try clear q278
               try clear q279
               obtain ⟨kq, x11_79, rfl, HA, HJ79, BK265, HB⟩ := hcut
               cases kq with
               | zero => exact absurd HA.out (by simp [spec_WarpOk.j4])
               | succ kj79 =>
                have H := HA.out
                clear HA
                simp only [spec_WarpOk.j4] at H
                have HC86 := Aside0.mk H
                clear H
                go_upto_region 21 with (fail)
                go_cut [158] (fun v158 wc => ∃ (kq : Nat) (x158_85 : Bool), v158 = .bool x158_85 ∧ Aside0 (spec_WarpOk.j5 kq a1 (rd l0_1 (rd t273 0)) x11_79 x158_85 a0_0 l0_1 l0_2 a0_3 a0_4 a0_5 a0_6 a0_7 = some r) ∧ Aside0 (kq ≤ kj79) ∧ Aside0 (wc.heap[gb265]? = some (.cells #[.int .i64 a0_0, (.slice (some ad279) l0_1.length c0_1), (.slice A0_2 l0_2.length c0_2), .int .u32 a0_3, .int .i64 a0_4, .int .i64 a0_5, .int .i64 a0_6, .int .u32 a0_7] 59 (0, 0))) ∧ Aside0 (Below w.heap.size w wc))
                case first => as_aux_lemma =>
                 have H := HC86.out
                 clear HC86
                 replace H := ieq H
                 rcases H with ⟨c87b0, c87b1, H⟩ | ⟨c87, c87b0, c87b1, H⟩
                 ·(first | rw [c87b0] | (simp only [i64_w, i32_w]; rw [c87b0]) | (simp only [c87b2, Bool.not_true, Bool.not_false]) | (simp only [c87b1, Bool.not_true, Bool.not_false]) | skip)
                  replace H := ib H
                  rcases H with ⟨rfl, H⟩ | ⟨rfl, H⟩
                  ·have H' := Aside0.mk H
                   clear H
                   obtain ⟨z89_0, z89_1, z89_2, z89_3, z89_4, z89_5, z89_6, z89_7⟩ := ca8 BK265
                   obtain ⟨f89_0, f89_1, f89_2, f89_3, f89_4, f89_5, f89_6, f89_7⟩ := fa8 BK265
                   go_wp2
                   go_meet
                   case rel => exact ⟨_, ((a0_7 != 0)), ev, H', ⟨by have := HJ2.out; have := HJ26.out; have := HK3.out; have := HJ79.out; first | omega | exact Nat.le_refl _⟩, ⟨bk BK265⟩, ⟨bw⟩⟩
                  ·have H' := Aside0.mk H
                   clear H
                   obtain ⟨z90_0, z90_1, z90_2, z90_3, z90_4, z90_5, z90_6, z90_7⟩ := ca8 BK265
                   obtain ⟨f90_0, f90_1, f90_2, f90_3, f90_4, f90_5, f90_6, f90_7⟩ := fa8 BK265
                   go_wp2
                   go_meet
                   case rel => exact ⟨_, (false), ev, H', ⟨by have := HJ2.out; have := HJ26.out; have := HK3.out; have := HJ79.out; first | omega | exact Nat.le_refl _⟩, ⟨bk BK265⟩, ⟨bw⟩⟩
                 ·(first | rw [c87b0] | (simp only [i64_w, i32_w]; rw [c87b0]) | (simp only [c87b2, Bool.not_true, Bool.not_false]) | (simp only [c87b1, Bool.not_true, Bool.not_false]) | skip)
                  have H' := Aside0.mk H
                  clear H
                  obtain ⟨z91_0, z91_1, z91_2, z91_3, z91_4, z91_5, z91_6, z91_7⟩ := ca8 BK265
                  obtain ⟨f91_0, f91_1, f91_2, f91_3, f91_4, f91_5, f91_6, f91_7⟩ := fa8 BK265
                  go_wp2
                  go_meet
                  case rel => exact ⟨_, ((a0_7 != 0)), ev, H', ⟨by have := HJ2.out; have := HJ26.out; have := HK3.out; have := HJ79.out; first | omega | exact Nat.le_refl _⟩, ⟨bk BK265⟩, ⟨bw⟩⟩
                case rest => as_aux_lemma =>
                 clear HC86
                 try clear c63
                 try clear c63b0
                 try clear c77
                 try clear c77b0
                 try clear c77b1
                 try clear c78
                 try clear c78b0
                 try clear c79
                 try clear c79b0
                 (try clear f28_0 f28_1 f28_2 f28_3 f28_4 f28_5 f28_6 f28_7)
                 (try clear f59_0 f59_1 f59_2 f59_3 f59_4 f59_5 f59_6 f59_7)
                 (try clear f61_0 f61_1 f61_2 f61_3 f61_4 f61_5 f61_6 f61_7)
                 try clear hx278_0
                 try clear hx279_0
                 try clear p278
                 try clear p279
                 try clear q278
                 try clear q279
                 obtain ⟨kq, x158_85, rfl, HA, HJ85, BK265, HB⟩ := hcut
                 cases kq with
                 | zero => exact absurd HA.out (by simp [spec_WarpOk.j5])
                 | succ kj85 =>
                  have H := HA.out
                  clear HA
                  simp only [spec_WarpOk.j5] at H
                  replace H := ib H
                  rcases H with ⟨rfl, H⟩ | ⟨rfl, H⟩
                  ·obtain rfl := Option.some.inj H
                   go_wp2
                   go_ret
                   exact ⟨rt, bw⟩
                  ·replace H := ib H
                   rcases H with ⟨rfl, H⟩ | ⟨rfl, H⟩
                   ·replace H := bn H
                    obtain ⟨t280, A94, H⟩ := H
                    try dsimp only at H
                    replace H := bn H
                    obtain ⟨t281, A95, H⟩ := H
                    try dsimp only at H
                    obtain rfl := Option.some.inj H
                    try go_wp2
                    replace BK265 := bd BK265
                    replace HB := hd HB
                    refine st0 6 (fun w' => CA w' gb265 0 [.int .i64 a0_0, .slice (some ad279) l0_1.length c0_1, .slice A0_2 l0_2.length c0_2, .int .u32 a0_3, .int .i64 a0_4, .int .i64 a0_5, .int .i64 a0_6, .int .u32 a0_7]) [] (cx BK265) ?_; intro hHeld
                    generalize wc.drew = w96 at BK265 HB hHeld ⊢
                    refine pu 1 162 (bl 6 2) ?_
                    refine pu 3 164 (bl 6 10) ?_
                    refine tk 0 161 (bl 6 11) ?_
                    refine on_ 2 (some 163) (bl 6 15) (fun K hK => ?_)
                    refine gq Tryz.func50 (spec_ChunksFor.calls _ _ _ A94.out) ?_
                    rintro e w' ⟨rfl, ⟨nd, rfl⟩⟩
                    refine ⟨_, rfl, ?_⟩
                    refine hK.out _ _ (cx BK265) (fun hHeld => ?_)
                    clear hK K
                    refine nm ?_
                    refine on_ 4 (some 165) (bl 6 31) (fun K hK => ?_)
                    refine gq Tryz.func49 (spec_l07LargeOk.calls _ _ (some ad279) c0_1 _ A0_2 c0_2 _ _ _ _ _ _ _ _ _ _ (cb HR0_1) HC0_1.out (cb HR0_2) HC0_2.out A95.out) ?_
                    rintro e w97 ⟨rfl, hb⟩
                    refine ⟨_, rfl, ?_⟩
                    replace BK265 := b_ BK265 hb
                    replace HB := hs hb
                    (try clear hb)
                    (try clear hb2)
                    (try clear hk)
                    (try clear hi)
                    refine hK.out _ _ (cx BK265) (fun hHeld => ?_)
                    clear hK K
                    refine nm ?_
                    refine pu 5 4 (bl 6 63) ?_
                    refine dn ?_ _
                    try go_wp2
                    go_ret
                    exact ⟨rt, bw⟩
                   ·replace H := ieq H
                    rcases H with ⟨c98b0, c98b1, H⟩ | ⟨c98, c98b0, c98b1, H⟩
                    ·replace H := ieq H
                     rcases H with ⟨c99b0, c99b1, H⟩ | ⟨c99, c99b0, c99b1, H⟩
                     ·replace H := ieq H
                      rcases H with ⟨c100b0, c100b1, H⟩ | ⟨c100, c100b0, c100b1, H⟩
                      ·obtain rfl := Option.some.inj H
                       obtain ⟨z101_0, z101_1, z101_2, z101_3, z101_4, z101_5, z101_6, z101_7⟩ := ca8 BK265
                       obtain ⟨f101_0, f101_1, f101_2, f101_3, f101_4, f101_5, f101_6, f101_7⟩ := fa8 BK265
                       try go_wp2
                       replace BK265 := bd BK265
                       replace HB := hd HB
                       refine st 28 (fun w' => CA w' gb265 0 [.int .i64 a0_0, .slice (some ad279) l0_1.length c0_1, .slice A0_2 l0_2.length c0_2, .int .u32 a0_3, .int .i64 a0_4, .int .i64 a0_5, .int .i64 a0_6, .int .u32 a0_7]) [] (cx BK265) spec_WarpOk.tab26 spec_WarpOk.bits26 ?_; intro hHeld HT_ HW_
                       generalize wc.drew = w102 at BK265 HB hHeld ⊢
                       refine pu 0 170 (bl 28 1) ?_
                       refine tk 1 171 (bl 28 3) ?_
                       refine pu 2 172 (bl 28 7) ?_
                       refine pu 3 173 (bl 28 15) ?_
                       refine pu 4 174 (bl 28 31) ?_
                       refine tk 5 175 (bl 28 63) ?_
                       refine pu 6 176 (bl 28 127) ?_
                       refine pu 7 177 (bl 28 255) ?_
                       refine pf 8 178 (bl 28 511) ?_
                       refine pf 9 179 (bl 28 1023) ?_
                       refine pf 10 180 (bl 28 2047) ?_
                       refine pf 11 181 (bl 28 4095) ?_
                       refine pf 12 182 (bl 28 8191) ?_
                       refine pf 13 183 (bl 28 16383) ?_
                       refine pf 14 184 (bl 28 32767) ?_
                       refine pf 15 185 (bl 28 65535) ?_
                       refine pf 16 186 (bl 28 131071) ?_
                       refine pf 17 187 (bl 28 262143) ?_
                       refine pf 18 188 (bl 28 524287) ?_
                       refine pf 19 189 (bl 28 1048575) ?_
                       refine pf 20 190 (bl 28 2097151) ?_
                       refine pf 21 191 (bl 28 4194303) ?_
                       refine pf 22 192 (bl 28 8388607) ?_
                       refine pf 23 193 (bl 28 16777215) ?_
                       refine pf 24 194 (bl 28 33554431) ?_
                       refine pu 25 195 (bl 28 67108863) ?_
                       refine pu 26 196 (bl 28 134217727) ?_
                       refine pu 27 4 (bl 28 268435455) ?_
                       refine dn ?_ _
                       try go_wp2
                       go_ret
                       exact ⟨rt, bw⟩
                      ·replace H := ieq H
                       rcases H with ⟨c103b0, c103b1, H⟩ | ⟨c103, c103b0, c103b1, H⟩
                       ·replace H := ilt H
                        rcases H with ⟨c104b0, H⟩ | ⟨c104b0, H⟩
                        ·replace H := bn H
                         obtain ⟨t282, A105, H⟩ := H
                         try dsimp only at H
                         replace H := bn H
                         obtain ⟨t283, A106, H⟩ := H
                         try dsimp only at H
                         obtain rfl := Option.some.inj H
                         obtain ⟨z107_0, z107_1, z107_2, z107_3, z107_4, z107_5, z107_6, z107_7⟩ := ca8 BK265
                         obtain ⟨f107_0, f107_1, f107_2, f107_3, f107_4, f107_5, f107_6, f107_7⟩ := fa8 BK265
                         try go_wp2
                         replace BK265 := bd BK265
                         replace HB := hd HB
                         refine st 28 (fun w' => CA w' gb265 0 [.int .i64 a0_0, .slice (some ad279) l0_1.length c0_1, .slice A0_2 l0_2.length c0_2, .int .u32 a0_3, .int .i64 a0_4, .int .i64 a0_5, .int .i64 a0_6, .int .u32 a0_7]) [] (cx BK265) spec_WarpOk.tab26 spec_WarpOk.bits26 ?_; intro hHeld HT_ HW_
                         generalize wc.drew = w108 at BK265 HB hHeld ⊢
                         refine pu 0 170 (bl 28 1) ?_
                         refine tk 1 171 (bl 28 3) ?_
                         refine pu 2 172 (bl 28 7) ?_
                         refine pu 3 173 (bl 28 15) ?_
                         refine pu 4 174 (bl 28 31) ?_
                         refine tk 5 175 (bl 28 63) ?_
                         refine pu 6 176 (bl 28 127) ?_
                         refine pu 7 177 (bl 28 255) ?_
                         refine pu 8 178 (bl 28 511) ?_
                         refine tk 9 179 (bl 28 1023) ?_
                         refine pu 10 180 (bl 28 2047) ?_
                         refine pu 11 181 (bl 28 4095) ?_
                         refine pu 12 182 (bl 28 8191) ?_
                         refine pu 14 184 (bl 28 24575) ?_
                         refine tk 13 183 (bl 28 32767) ?_
                         refine pu 15 185 (bl 28 65535) ?_
                         refine pu 16 186 (bl 28 131071) ?_
                         refine pu 17 187 (bl 28 262143) ?_
                         refine pu 18 188 (bl 28 524287) ?_
                         refine pu 20 190 (bl 28 1572863) ?_
                         refine tk 19 189 (bl 28 2097151) ?_
                         refine on_ 21 (some 191) (bl 28 4194303) (fun K hK => ?_)
                         refine gq Tryz.func52 (spec_ClassOf.calls _ _ _ _ A105.out) ?_
                         rintro e w' ⟨rfl, ⟨nd, rfl⟩⟩
                         refine ⟨_, rfl, ?_⟩
                         refine hK.out _ _ (cx BK265) (fun hHeld => ?_)
                         clear hK K
                         refine nm ?_
                         refine on_ 22 (some 192) (bl 28 8388607) (fun K hK => ?_)
                         refine gq Tryz.func51 (spec_Room.calls _ _ _ _ _ A106.out) ?_
                         rintro e w109 ⟨rfl, hb⟩
                         refine ⟨_, rfl, ?_⟩
                         replace BK265 := b_ BK265 hb
                         replace HB := hs hb
                         (try clear hb)
                         (try clear hb2)
                         (try clear hk)
                         (try clear hi)
                         refine hK.out _ _ (cx BK265) (fun hHeld => ?_)
                         clear hK K
                         refine nm ?_
                         refine pu 23 193 (bl 28 16777215) ?_
                         refine pu 24 194 (bl 28 33554431) ?_
                         refine pu 25 195 (bl 28 67108863) ?_
                         refine pu 26 196 (bl 28 134217727) ?_
                         refine pu 27 4 (bl 28 268435455) ?_
                         refine dn ?_ _
                         try go_wp2
                         go_ret
                         exact ⟨rt, bw⟩
                        ·obtain rfl := Option.some.inj H
                         obtain ⟨z110_0, z110_1, z110_2, z110_3, z110_4, z110_5, z110_6, z110_7⟩ := ca8 BK265
                         obtain ⟨f110_0, f110_1, f110_2, f110_3, f110_4, f110_5, f110_6, f110_7⟩ := fa8 BK265
                         try go_wp2
                         replace BK265 := bd BK265
                         replace HB := hd HB
                         refine st 28 (fun w' => CA w' gb265 0 [.int .i64 a0_0, .slice (some ad279) l0_1.length c0_1, .slice A0_2 l0_2.length c0_2, .int .u32 a0_3, .int .i64 a0_4, .int .i64 a0_5, .int .i64 a0_6, .int .u32 a0_7]) [] (cx BK265) spec_WarpOk.tab26 spec_WarpOk.bits26 ?_; intro hHeld HT_ HW_
                         generalize wc.drew = w111 at BK265 HB hHeld ⊢
                         refine pu 0 170 (bl 28 1) ?_
                         refine tk 1 171 (bl 28 3) ?_
                         refine pu 2 172 (bl 28 7) ?_
                         refine pu 3 173 (bl 28 15) ?_
                         refine pu 4 174 (bl 28 31) ?_
                         refine tk 5 175 (bl 28 63) ?_
                         refine pu 6 176 (bl 28 127) ?_
                         refine pu 7 177 (bl 28 255) ?_
                         refine pu 8 178 (bl 28 511) ?_
                         refine tk 9 179 (bl 28 1023) ?_
                         refine pu 10 180 (bl 28 2047) ?_
                         refine pu 11 181 (bl 28 4095) ?_
                         refine pu 12 182 (bl 28 8191) ?_
                         refine pu 14 184 (bl 28 24575) ?_
                         refine tk 13 183 (bl 28 32767) ?_
                         refine pu 15 185 (bl 28 65535) ?_
                         refine pu 16 186 (bl 28 131071) ?_
                         refine pu 17 187 (bl 28 262143) ?_
                         refine pf 18 188 (bl 28 524287) ?_
                         refine pf 19 189 (bl 28 1048575) ?_
                         refine pf 20 190 (bl 28 2097151) ?_
                         refine pf 21 191 (bl 28 4194303) ?_
                         refine pf 22 192 (bl 28 8388607) ?_
                         refine pf 23 193 (bl 28 16777215) ?_
                         refine pu 24 194 (bl 28 33554431) ?_
                         refine pu 25 195 (bl 28 67108863) ?_
                         refine pu 26 196 (bl 28 134217727) ?_
                         refine pu 27 4 (bl 28 268435455) ?_
                         refine dn ?_ _
                         try go_wp2
                         go_ret
                         exact ⟨rt, bw⟩
                       ·obtain rfl := Option.some.inj H
                        obtain ⟨z112_0, z112_1, z112_2, z112_3, z112_4, z112_5, z112_6, z112_7⟩ := ca8 BK265
                        obtain ⟨f112_0, f112_1, f112_2, f112_3, f112_4, f112_5, f112_6, f112_7⟩ := fa8 BK265
                        try go_wp2
                        replace BK265 := bd BK265
                        replace HB := hd HB
                        refine st 28 (fun w' => CA w' gb265 0 [.int .i64 a0_0, .slice (some ad279) l0_1.length c0_1, .slice A0_2 l0_2.length c0_2, .int .u32 a0_3, .int .i64 a0_4, .int .i64 a0_5, .int .i64 a0_6, .int .u32 a0_7]) [] (cx BK265) spec_WarpOk.tab26 spec_WarpOk.bits26 ?_; intro hHeld HT_ HW_
                        generalize wc.drew = w113 at BK265 HB hHeld ⊢
                        refine pu 0 170 (bl 28 1) ?_
                        refine tk 1 171 (bl 28 3) ?_
                        refine pu 2 172 (bl 28 7) ?_
                        refine pu 3 173 (bl 28 15) ?_
                        refine pu 4 174 (bl 28 31) ?_
                        refine tk 5 175 (bl 28 63) ?_
                        refine pu 6 176 (bl 28 127) ?_
                        refine pu 7 177 (bl 28 255) ?_
                        refine pu 8 178 (bl 28 511) ?_
                        refine tk 9 179 (bl 28 1023) ?_
                        refine pu 10 180 (bl 28 2047) ?_
                        refine pu 11 181 (bl 28 4095) ?_
                        refine pf 12 182 (bl 28 8191) ?_
                        refine pf 13 183 (bl 28 16383) ?_
                        refine pf 14 184 (bl 28 32767) ?_
                        refine pf 15 185 (bl 28 65535) ?_
                        refine pu 16 186 (bl 28 131071) ?_
                        refine pu 17 187 (bl 28 262143) ?_
                        refine pf 18 188 (bl 28 524287) ?_
                        refine pf 19 189 (bl 28 1048575) ?_
                        refine pf 20 190 (bl 28 2097151) ?_
                        refine pf 21 191 (bl 28 4194303) ?_
                        refine pf 22 192 (bl 28 8388607) ?_
                        refine pf 23 193 (bl 28 16777215) ?_
                        refine pu 24 194 (bl 28 33554431) ?_
                        refine pu 25 195 (bl 28 67108863) ?_
                        refine pu 26 196 (bl 28 134217727) ?_
                        refine pu 27 4 (bl 28 268435455) ?_
                        refine dn ?_ _
                        try go_wp2
                        go_ret
                        exact ⟨rt, bw⟩
                     ·obtain rfl := Option.some.inj H
                      obtain ⟨z114_0, z114_1, z114_2, z114_3, z114_4, z114_5, z114_6, z114_7⟩ := ca8 BK265
                      obtain ⟨f114_0, f114_1, f114_2, f114_3, f114_4, f114_5, f114_6, f114_7⟩ := fa8 BK265
                      try go_wp2
                      replace BK265 := bd BK265
                      replace HB := hd HB
                      refine st 28 (fun w' => CA w' gb265 0 [.int .i64 a0_0, .slice (some ad279) l0_1.length c0_1, .slice A0_2 l0_2.length c0_2, .int .u32 a0_3, .int .i64 a0_4, .int .i64 a0_5, .int .i64 a0_6, .int .u32 a0_7]) [] (cx BK265) spec_WarpOk.tab26 spec_WarpOk.bits26 ?_; intro hHeld HT_ HW_
                      generalize wc.drew = w115 at BK265 HB hHeld ⊢
                      refine pu 0 170 (bl 28 1) ?_
                      refine tk 1 171 (bl 28 3) ?_
                      refine pu 2 172 (bl 28 7) ?_
                      refine pu 3 173 (bl 28 15) ?_
                      refine pf 4 174 (bl 28 31) ?_
                      refine pf 5 175 (bl 28 63) ?_
                      refine pf 6 176 (bl 28 127) ?_
                      refine pf 7 177 (bl 28 255) ?_
                      refine pf 8 178 (bl 28 511) ?_
                      refine pf 9 179 (bl 28 1023) ?_
                      refine pf 10 180 (bl 28 2047) ?_
                      refine pf 11 181 (bl 28 4095) ?_
                      refine pf 12 182 (bl 28 8191) ?_
                      refine pf 13 183 (bl 28 16383) ?_
                      refine pf 14 184 (bl 28 32767) ?_
                      refine pf 15 185 (bl 28 65535) ?_
                      refine pf 16 186 (bl 28 131071) ?_
                      refine pf 17 187 (bl 28 262143) ?_
                      refine pf 18 188 (bl 28 524287) ?_
                      refine pf 19 189 (bl 28 1048575) ?_
                      refine pf 20 190 (bl 28 2097151) ?_
                      refine pf 21 191 (bl 28 4194303) ?_
                      refine pf 22 192 (bl 28 8388607) ?_
                      refine pf 23 193 (bl 28 16777215) ?_
                      refine pf 24 194 (bl 28 33554431) ?_
                      refine pf 25 195 (bl 28 67108863) ?_
                      refine pu 26 196 (bl 28 134217727) ?_
                      refine pu 27 4 (bl 28 268435455) ?_
                      refine dn ?_ _
                      try go_wp2
                      go_ret
                      exact ⟨rt, bw⟩
                    ·replace H := ieq H
                     rcases H with ⟨c116b0, c116b1, H⟩ | ⟨c116, c116b0, c116b1, H⟩
                     ·replace H := ieq H
                      rcases H with ⟨c117b0, c117b1, H⟩ | ⟨c117, c117b0, c117b1, H⟩
                      ·obtain rfl := Option.some.inj H
                       obtain ⟨z118_0, z118_1, z118_2, z118_3, z118_4, z118_5, z118_6, z118_7⟩ := ca8 BK265
                       obtain ⟨f118_0, f118_1, f118_2, f118_3, f118_4, f118_5, f118_6, f118_7⟩ := fa8 BK265
                       go_wp2
                       go_ret
                       exact ⟨rt, bw⟩
                      ·obtain rfl := Option.some.inj H
                       obtain ⟨z119_0, z119_1, z119_2, z119_3, z119_4, z119_5, z119_6, z119_7⟩ := ca8 BK265
                       obtain ⟨f119_0, f119_1, f119_2, f119_3, f119_4, f119_5, f119_6, f119_7⟩ := fa8 BK265
                       go_wp2
                       go_ret
                       exact ⟨rt, bw⟩
                     ·replace H := ieq H
                      rcases H with ⟨c120b0, c120b1, H⟩ | ⟨c120, c120b0, c120b1, H⟩
                      ·replace H := ieq H
                       rcases H with ⟨c121b0, c121b1, H⟩ | ⟨c121, c121b0, c121b1, H⟩
                       ·replace H := ieq H
                        rcases H with ⟨c122b0, c122b1, H⟩ | ⟨c122, c122b0, c122b1, H⟩
                        ·replace H := ilt H
                         rcases H with ⟨c123b0, H⟩ | ⟨c123b0, H⟩
                         ·replace H := bn H
                          obtain ⟨t284, A124, H⟩ := H
                          try dsimp only at H
                          obtain rfl := Option.some.inj H
                          obtain ⟨z125_0, z125_1, z125_2, z125_3, z125_4, z125_5, z125_6, z125_7⟩ := ca8 BK265
                          obtain ⟨f125_0, f125_1, f125_2, f125_3, f125_4, f125_5, f125_6, f125_7⟩ := fa8 BK265
                          go_wp2_with (first | (go_at_call 53; (with_reducible refine (spec_l07Gives.calls _ _ _ _ _ A124.out).mono ?_); rintro e w126 ⟨rfl, hb⟩; replace BK265 := b_ BK265 hb; replace HB := hs hb; try clear hb))
                          go_ret
                          exact ⟨rt, bw⟩
                         ·obtain rfl := Option.some.inj H
                          obtain ⟨z127_0, z127_1, z127_2, z127_3, z127_4, z127_5, z127_6, z127_7⟩ := ca8 BK265
                          obtain ⟨f127_0, f127_1, f127_2, f127_3, f127_4, f127_5, f127_6, f127_7⟩ := fa8 BK265
                          go_wp2
                          go_ret
                          exact ⟨rt, bw⟩
                        ·obtain rfl := Option.some.inj H
                         obtain ⟨z128_0, z128_1, z128_2, z128_3, z128_4, z128_5, z128_6, z128_7⟩ := ca8 BK265
                         obtain ⟨f128_0, f128_1, f128_2, f128_3, f128_4, f128_5, f128_6, f128_7⟩ := fa8 BK265
                         go_wp2
                         go_ret
                         exact ⟨rt, bw⟩
                       ·obtain rfl := Option.some.inj H
                        obtain ⟨z129_0, z129_1, z129_2, z129_3, z129_4, z129_5, z129_6, z129_7⟩ := ca8 BK265
                        obtain ⟨f129_0, f129_1, f129_2, f129_3, f129_4, f129_5, f129_6, f129_7⟩ := fa8 BK265
                        go_wp2
                        go_ret
                        exact ⟨rt, bw⟩
                      ·replace H := ieq H
                       rcases H with ⟨c130b0, c130b1, H⟩ | ⟨c130, c130b0, c130b1, H⟩
                       ·replace H := igt H
                        rcases H with ⟨c131b0, H⟩ | ⟨c131b0, H⟩
                        ·obtain rfl := Option.some.inj H
                         obtain ⟨z132_0, z132_1, z132_2, z132_3, z132_4, z132_5, z132_6, z132_7⟩ := ca8 BK265
                         obtain ⟨f132_0, f132_1, f132_2, f132_3, f132_4, f132_5, f132_6, f132_7⟩ := fa8 BK265
                         go_wp2
                         go_ret
                         exact ⟨rt, bw⟩
                        ·obtain rfl := Option.some.inj H
                         obtain ⟨z133_0, z133_1, z133_2, z133_3, z133_4, z133_5, z133_6, z133_7⟩ := ca8 BK265
                         obtain ⟨f133_0, f133_1, f133_2, f133_3, f133_4, f133_5, f133_6, f133_7⟩ := fa8 BK265
                         go_wp2
                         go_ret
                         exact ⟨rt, bw⟩
                       ·obtain rfl := Option.some.inj H
                        obtain ⟨z134_0, z134_1, z134_2, z134_3, z134_4, z134_5, z134_6, z134_7⟩ := ca8 BK265
                        obtain ⟨f134_0, f134_1, f134_2, f134_3, f134_4, f134_5, f134_6, f134_7⟩ := fa8 BK265
                        go_wp2
                        go_ret
                        exact ⟨rt, bw⟩
             ·rw [if_neg c79] at H
              exact absurd H (by simp)
            ·rw [if_neg c78] at H
             exact absurd H (by simp)
           ·rw [if_neg c77] at H
            exact absurd H (by simp)

end Go.Proofs.YtfhcnnkeokjfpaaGreatDoor.PO1
namespace Go.Proofs.YtfhcnnkeokjfpaaGreatDoor.PO1
open Go.RowKit Go.Proofs.YtfhcnnkeokjfpaaGreatDoorW.PrintWords Go.Proofs.YtfhcnnkeokjfpaaGreatDoorW.PrintLast Go.Proofs.YtfhcnnkeokjfpaaGreatDoorW.PrintMore Go.Proofs.YtfhcnnkeokjfpaaGreatDoor.T
attribute [local go_sem] max2_int min2_int max_two min_two max_three min_three max_four min_four   -- for this text's walks alone
set_option linter.unusedVariables false
set_option linter.unusedSimpArgs false

/-! ### spec_MachOk: function 15 -/
mutual
def spec_MachOk.j0 : Nat → Bool → List Int → List (S59) → Option (Bool)
 | 0, _, _, _ => none
 | k + 1, x21, x286000, x286001 => if x21 = true then (some false) else (spec_MachOk.l0 k 0 x286000 x286001)
def spec_MachOk.l0 : Nat → Int → List Int → List (S59) → Option (Bool)
 | 0, _, _, _ => none
 | k + 1, x3, x286000, x286001 => if x3 < (x286001.length : Int) then (if 0 ≤ x3 then ((spec_WarpOk.f k ((rd_T59 x286001 x3).f0) ((rd_T59 x286001 x3).f1) ((rd_T59 x286001 x3).f2) ((rd_T59 x286001 x3).f3) ((rd_T59 x286001 x3).f4) ((rd_T59 x286001 x3).f5) ((rd_T59 x286001 x3).f6) ((rd_T59 x286001 x3).f7) (x286000.length : Int)).bind fun t288 => (if t288 = true then (spec_MachOk.l0 k (wrap64 (x3 + 1)) x286000 x286001) else (some false))) else (none)) else ((spec_l08Owners.f k x286000 x286001).bind fun bt289 => (some bt289.2))
end
def spec_MachOk.f (k : Nat) (l0_0 : List Int) (l0_1 : List (S59)) : Option (Bool) := (spec_l07MemOk.f k l0_0).bind fun t286 => (if t286 = true then (if (l0_1.length : Int) < 1 then (spec_MachOk.j0 k true l0_0 l0_1) else (spec_MachOk.j0 k (decide ((l0_1.length : Int) > 4)) l0_0 l0_1)) else (spec_MachOk.j0 k true l0_0 l0_1))
theorem spec_MachOk.mono_l : ∀ k, (∀ y0 y1 y2, LeO (spec_MachOk.j0 k y0 y1 y2) (spec_MachOk.j0 (k + 1) y0 y1 y2)) ∧ (∀ y0 y1 y2, LeO (spec_MachOk.l0 k y0 y1 y2) (spec_MachOk.l0 (k + 1) y0 y1 y2))
 | 0 => ⟨fun _ _ _ r h => by simp [spec_MachOk.j0] at h, fun _ _ _ r h => by simp [spec_MachOk.l0] at h⟩
 | k + 1 => by
  obtain ⟨ih0, ih1⟩ := spec_MachOk.mono_l k
  refine ⟨?_, ?_⟩
  ·intro y0 y1 y2
   unfold spec_MachOk.j0
   repeat' first
    | (with_reducible first | exact ih0 .. | exact ih1 .. | exact spec_WarpOk.mono .. | exact spec_l07MemOk.mono .. | exact spec_l08Owners.mono .. | exact LeO.refl _ | exact LeO.none _ | refine LeO.ite ?_ ?_ | refine LeO.bind ?_ (fun _ => ?_))
    | exact LeO.none _ | refine LeO.ite ?_ ?_ | refine LeO.bind ?_ (fun _ => ?_)
  ·intro y0 y1 y2
   unfold spec_MachOk.l0
   repeat' first
    | (with_reducible first | exact ih0 .. | exact ih1 .. | exact spec_WarpOk.mono .. | exact spec_l07MemOk.mono .. | exact spec_l08Owners.mono .. | exact LeO.refl _ | exact LeO.none _ | refine LeO.ite ?_ ?_ | refine LeO.bind ?_ (fun _ => ?_))
    | exact LeO.none _ | refine LeO.ite ?_ ?_ | refine LeO.bind ?_ (fun _ => ?_)
theorem spec_MachOk.mono : ∀ a0 a1 k, LeO (spec_MachOk.f k a0 a1) (spec_MachOk.f (k + 1) a0 a1) := by
 intro a0 a1 k
 obtain ⟨ih0, ih1⟩ := spec_MachOk.mono_l k
 unfold spec_MachOk.f
 repeat' first
  | (with_reducible first | exact ih0 .. | exact ih1 .. | exact spec_WarpOk.mono .. | exact spec_l07MemOk.mono .. | exact spec_l08Owners.mono .. | exact LeO.refl _ | exact LeO.none _ | refine LeO.ite ?_ ?_ | refine LeO.bind ?_ (fun _ => ?_))
  | exact LeO.none _ | refine LeO.ite ?_ ?_ | refine LeO.bind ?_ (fun _ => ?_)
def spec_MachOk.T6 : Bool × List (List Nat × List Nat) := (true, [([], []), ([0], [0]), ([], []), ([1, 2], [1, 2]), ([3], [3]), ([], []), ([5], [5]), ([6], [6]), ([7], [7]), ([4, 8], [4, 8]), ([9], [9])])
def spec_MachOk.B6 : List Nat := [0, 1, 0, 7, 15, 0, 32, 96, 224, 511, 1023]
theorem spec_MachOk.tab6 : rtab .any (opsOf Tryz.f15 6) = spec_MachOk.T6 := kr
theorem spec_MachOk.bits6 : waitsOk spec_MachOk.T6.2 spec_MachOk.B6 = true := kr
set_option maxHeartbeats 8000000 in
set_option maxRecDepth 100000 in
theorem spec_MachOk.calls (k : Nat) (A0_0 : Option Addr) (c0_0 : Nat) (l0_0 : List Int) (A0_1 : Option Addr) (c0_1 : Nat) (l0_1 : List (S59)) (r : Bool) (w : World) (hr0_0 : Kd.C (Kd.int .u32) w A0_0 l0_0.length l0_0) (hc0_0 : l0_0.length ≤ c0_0) (hr0_1 : Kd.C k59 w A0_1 l0_1.length l0_1) (hc0_1 : l0_1.length ≤ c0_1) (h : spec_MachOk.f k l0_0 l0_1 = some r) :
  Calls Tryz.prog 15 #[.agg #[.slice A0_0 l0_0.length c0_0, .slice A0_1 l0_1.length c0_1]] w fun e w' => e = .returned (.bool r) ∧ Below w.heap.size w w' := by
 have hu34 := Tryz.underlying34
 have hu31 := Tryz.underlying31
 have hu59 := Tryz.underlying59
 have HR0_0 := Aside0.mk hr0_0
 have HC0_0 := Aside0.mk hc0_0
 clear hr0_0 hc0_0
 have HR0_1 := Aside0.mk hr0_1
 have HC0_1 := Aside0.mk hc0_1
 clear hr0_1 hc0_1
 have HB := Aside0.mk (Below.refl w.heap.size w)
 unfold spec_MachOk.f at h
 have H := h
 clear h
 have HC2 := Aside0.mk H
 clear H
 go_enter Tryz.func15, Tryz.ntmps15
 go_upto_region 1 with (first | ((with_reducible refine gate_dst (N := 1) rfl ?_); (try (refine gate_guard (by rfl) ?_; dsimp only)); refine box_event ?hg (N := 1) ?hd (cs := #[.slice A0_0 l0_0.length c0_0, .slice A0_1 l0_1.length c0_1]) (t := 34) ?hr ?_; (case hd => rfl); (case hg => rfl); (case hr => first | (go_simp; done) | (go_simp; rfl)); intro gb285 hg w3 hbox hb; have BK285 := Aside0.mk hbox; have GW285 := bz hg; have GE285 := bz hg; replace HB := hs hb; clear hb hbox hg))
 (try refine ap ?_)
 go_cut [21] (fun v21 wc => ∃ (kq : Nat) (x21_1 : Bool), v21 = .bool x21_1 ∧ Aside0 (spec_MachOk.j0 kq x21_1 l0_0 l0_1 = some r) ∧ Aside0 (kq ≤ k) ∧ Aside0 (wc.heap[gb285]? = some (.cells #[(.slice A0_0 l0_0.length c0_0), (.slice A0_1 l0_1.length c0_1)] 34 (0, 0))) ∧ Aside0 (Below w.heap.size w wc))
 case first =>
  have H := HC2.out
  clear HC2
  replace H := bn H
  obtain ⟨t286, A4, H⟩ := H
  try dsimp only at H
  replace H := ib H
  rcases H with ⟨rfl, H⟩ | ⟨rfl, H⟩
  ·(try simp only [Bool.not_true, Bool.not_false])
   by_cases c6 : (l0_1.length : Int) < 1
   ·rw [if_pos c6] at H
    have c6b0 : decide ((l0_1.length : Int) < 1) = true := decide_eq_true c6
    have c6b1 : decide (l0_1.length < 1) = true := decide_eq_true (by omega)
    clear c6
    have H' := Aside0.mk H
    clear H
    obtain ⟨z7_0, z7_1⟩ := ca2 BK285
    obtain ⟨f7_0, f7_1⟩ := fa2 BK285
    go_wp2_with (first | ((with_reducible refine gf 26 ?_); refine gc Tryz.func26 (some 8) (spec_l07MemOk.calls _ A0_0 c0_0 _ _ _ (cb HR0_0) HC0_0.out A4.out) ?_; rintro e w8 ⟨rfl, hb⟩; refine ⟨_, rfl, ?_⟩; replace BK285 := b_ BK285 hb; replace HB := hs hb; try clear hb; obtain ⟨z9_0, z9_1⟩ := ca2 BK285; obtain ⟨f9_0, f9_1⟩ := fa2 BK285))
    go_meet
    case rel => exact ⟨_, (true), ev, H', ⟨om⟩, ⟨bk BK285⟩, ⟨bw⟩⟩
   ·rw [if_neg c6] at H
    have c6b0 : decide ((l0_1.length : Int) < 1) = false := decide_eq_false c6
    have c6b1 : decide (l0_1.length < 1) = false := decide_eq_false (by omega)
    clear c6
    have H' := Aside0.mk H
    clear H
    obtain ⟨z10_0, z10_1⟩ := ca2 BK285
    obtain ⟨f10_0, f10_1⟩ := fa2 BK285
    go_wp2_with (first | ((with_reducible refine gf 26 ?_); refine gc Tryz.func26 (some 8) (spec_l07MemOk.calls _ A0_0 c0_0 _ _ _ (cb HR0_0) HC0_0.out A4.out) ?_; rintro e w11 ⟨rfl, hb⟩; refine ⟨_, rfl, ?_⟩; replace BK285 := b_ BK285 hb; replace HB := hs hb; try clear hb; obtain ⟨z12_0, z12_1⟩ := ca2 BK285; obtain ⟨f12_0, f12_1⟩ := fa2 BK285))
    go_meet
    case rel => exact ⟨_, (decide ((l0_1.length : Int) > 4)), ev, H', ⟨om⟩, ⟨bk BK285⟩, ⟨bw⟩⟩
  ·(try simp only [Bool.not_true, Bool.not_false])
   have H' := Aside0.mk H
   clear H
   obtain ⟨z13_0, z13_1⟩ := ca2 BK285
   obtain ⟨f13_0, f13_1⟩ := fa2 BK285
   go_wp2_with (first | ((with_reducible refine gf 26 ?_); refine gc Tryz.func26 (some 8) (spec_l07MemOk.calls _ A0_0 c0_0 _ _ _ (cb HR0_0) HC0_0.out A4.out) ?_; rintro e w14 ⟨rfl, hb⟩; refine ⟨_, rfl, ?_⟩; replace BK285 := b_ BK285 hb; replace HB := hs hb; try clear hb))
   go_meet
   case rel => exact ⟨_, (true), ev, H', ⟨om⟩, ⟨bk BK285⟩, ⟨bw⟩⟩
 case rest =>
  clear HC2
  obtain ⟨kq, x21_1, rfl, HA, HJ1, BK285, HB⟩ := hcut
  cases kq with
  | zero => exact absurd HA.out (by simp [spec_MachOk.j0])
  | succ kj1 =>
   have H := HA.out
   clear HA
   simp only [spec_MachOk.j0] at H
   replace H := ib H
   rcases H with ⟨rfl, H⟩ | ⟨rfl, H⟩
   ·obtain rfl := Option.some.inj H
    go_wp2
    go_ret
    exact ⟨rt, bw⟩
   ·have H' := Aside0.mk H
    clear H
    go_wp2
    go_loopg [3] kj1 (fun kq v3 w' => ∃ (x3_2 : Int), v3 = .int .i64 x3_2 ∧ Aside0 (spec_MachOk.l0 kq x3_2 l0_0 l0_1 = some r) ∧ Aside0 (kq ≤ kj1) ∧ Aside0 (w'.heap[gb285]? = some (.cells #[(.slice A0_0 l0_0.length c0_0), (.slice A0_1 l0_1.length c0_1)] 34 (0, 0))) ∧ Aside0 (Below w.heap.size w w'))
    case atStart => exact ⟨(0), ev, H', ⟨Nat.le_refl _⟩, ⟨bk BK285⟩, ⟨bw⟩⟩
    case round =>
     clear H'
     try clear c15
     obtain ⟨x3_2, rfl, HA, HK2, BK285, HB⟩ := hrel
     cases gk with
     | zero => exact absurd HA.out (by simp [spec_MachOk.l0])
     | succ k2 =>
      have H := HA.out
      clear HA
      simp only [spec_MachOk.l0] at H
      replace H := ilt H
      rcases H with ⟨c16b0, H⟩ | ⟨c16b0, H⟩
      ·by_cases c17 : 0 ≤ x3_2
       ·rw [if_pos c17] at H
        have c17b0 : decide (0 ≤ x3_2) = true := decide_eq_true c17
        clear c17
        replace H := bn H
        obtain ⟨t288, A18, H⟩ := H
        try dsimp only at H
        have HU19 := Aside0.mk H
        clear H
        obtain ⟨z20_0, z20_1⟩ := ca2 BK285
        obtain ⟨f20_0, f20_1⟩ := fa2 BK285
        try go_wp2
        replace BK285 := bd BK285
        replace HB := hd HB
        have p287 : 0 ≤ (x3_2 : Int) := of_decide_eq_true as_
        have q287 : x3_2 < (l0_1.length : Int) := of_decide_eq_true as_
        obtain ⟨ad287, A287_1, c287_1, A287_2, c287_2, e287, hx287_0, hx287_1, hx287_2, hx287_3, hx287_4, hx287_5, hx287_6, hx287_7, hl287_1, hi287_1, hl287_2, hi287_2⟩ := at_T59 HR0_1.out x3_2 p287 q287
        have hw287_7 := hx287_7
        have hw287_6 := hx287_6
        have hw287_5 := hx287_5
        have hw287_4 := hx287_4
        have hw287_3 := hx287_3
        have hw287_2 := hx287_2
        have hw287_1 := hx287_1
        have hw287_0 := hx287_0
        cases e287
        replace hx287_0 := cl HB hx287_0
        replace hx287_1 := cl HB hx287_1
        replace hx287_2 := cl HB hx287_2
        replace hx287_3 := cl HB hx287_3
        replace hx287_4 := cl HB hx287_4
        replace hx287_5 := cl HB hx287_5
        replace hx287_6 := cl HB hx287_6
        replace hx287_7 := cl HB hx287_7
        have HR287_1 := Aside0.mk hi287_1
        have HC287_1 := Aside0.mk hl287_1
        clear hi287_1 hl287_1
        have HR287_2 := Aside0.mk hi287_2
        have HC287_2 := Aside0.mk hl287_2
        clear hi287_2 hl287_2
        replace p287 := eq_true p287
        replace q287 := eq_true q287
        refine st 11 (fun w' => CA w' gb285 0 [.slice A0_0 l0_0.length c0_0, .slice (some ad287) l0_1.length c0_1] ∧ w'.cell? (ad287.add ((x3_2).toNat * 8)) = some (.int .i64 ((rd_T59 l0_1 x3_2).f0)) ∧ w'.cell? ⟨(ad287.add ((x3_2).toNat * 8)).block, (ad287.add ((x3_2).toNat * 8)).off + 1, none⟩ = some (.slice A287_1 ((rd_T59 l0_1 x3_2).f1).length c287_1) ∧ w'.cell? ⟨(ad287.add ((x3_2).toNat * 8)).block, (ad287.add ((x3_2).toNat * 8)).off + 2, none⟩ = some (.slice A287_2 ((rd_T59 l0_1 x3_2).f2).length c287_2) ∧ w'.cell? ⟨(ad287.add ((x3_2).toNat * 8)).block, (ad287.add ((x3_2).toNat * 8)).off + 3, none⟩ = some (.int .u32 ((rd_T59 l0_1 x3_2).f3)) ∧ w'.cell? ⟨(ad287.add ((x3_2).toNat * 8)).block, (ad287.add ((x3_2).toNat * 8)).off + 4, none⟩ = some (.int .i64 ((rd_T59 l0_1 x3_2).f4)) ∧ w'.cell? ⟨(ad287.add ((x3_2).toNat * 8)).block, (ad287.add ((x3_2).toNat * 8)).off + 5, none⟩ = some (.int .i64 ((rd_T59 l0_1 x3_2).f5)) ∧ w'.cell? ⟨(ad287.add ((x3_2).toNat * 8)).block, (ad287.add ((x3_2).toNat * 8)).off + 6, none⟩ = some (.int .i64 ((rd_T59 l0_1 x3_2).f6)) ∧ w'.cell? ⟨(ad287.add ((x3_2).toNat * 8)).block, (ad287.add ((x3_2).toNat * 8)).off + 7, none⟩ = some (.int .u32 ((rd_T59 l0_1 x3_2).f7))) [] ⟨cx BK285, (cl HB hw287_0 :), (cl HB hw287_1 :), (cl HB hw287_2 :), (cl HB hw287_3 :), (cl HB hw287_4 :), (cl HB hw287_5 :), (cl HB hw287_6 :), (cl HB hw287_7 :)⟩ spec_MachOk.tab6 spec_MachOk.bits6 ?_; intro hHeld HT_ HW_
        generalize wr.drew = w21 at BK285 HB HR287_1 HR287_2 hx287_0 hx287_1 hx287_2 hx287_3 hx287_4 hx287_5 hx287_6 hx287_7 hHeld ⊢
        refine pu 0 29 (bl 11 1) ?_
        refine pu 2 31 (bl 11 5) ?_
        refine pu 5 34 (bl 11 37) ?_
        refine pu 6 35 (bl 11 101) ?_
        refine tk 1 30 (bl 11 103) ?_
        refine pu 3 32 (bl 11 111) ?_
        refine tk 4 33 (bl 11 127) ?_
        refine tk 7 36 (bl 11 255) ?_
        refine pu 8 37 (bl 11 511) ?_
        refine on_ 9 (some 38) (bl 11 1023) (fun K hK => ?_)
        refine gq Tryz.func27 (spec_WarpOk.calls _ _ A287_1 c287_1 _ A287_2 c287_2 _ _ _ _ _ _ _ _ _ (cb HR287_1) HC287_1.out (cb HR287_2) HC287_2.out A18.out) ?_
        rintro e w22 ⟨rfl, hb⟩
        refine ⟨_, rfl, ?_⟩
        replace BK285 := b_ BK285 hb
        replace HB := hs hb
        (try clear hb)
        refine hK.out _ _ ⟨cx BK285, (cl HB hw287_0 :), (cl HB hw287_1 :), (cl HB hw287_2 :), (cl HB hw287_3 :), (cl HB hw287_4 :), (cl HB hw287_5 :), (cl HB hw287_6 :), (cl HB hw287_7 :)⟩ (fun hHeld => ?_)
        clear hK K
        refine nm ?_
        refine pu 10 39 (bl 11 2047) ?_
        refine dn ?_ _
        go_upto_if 39 with (fail)
        have H := HU19.out
        clear HU19
        replace H := ib H
        rcases H with ⟨rfl, H⟩ | ⟨rfl, H⟩
        ·(try simp only [Bool.not_true, Bool.not_false])
         have H' := Aside0.mk H
         clear H
         go_wp2
         go_roundg k2
         case measure => have := HJ1.out; have := HK2.out; omega
         case rel => exact ⟨(wrap64 (x3_2 + 1)), ev, H', ⟨by have := HJ1.out; have := HK2.out; omega⟩, ⟨bk BK285⟩, ⟨bw⟩⟩
        ·(try simp only [Bool.not_true, Bool.not_false])
         obtain rfl := Option.some.inj H
         go_wp2
         go_ret
         exact ⟨rt, bw⟩
       ·rw [if_neg c17] at H
        exact absurd H (by simp)
      ·replace H := bn H
       obtain ⟨⟨t289, t292⟩, A24, H⟩ := H
       try dsimp only at H
       obtain rfl := Option.some.inj H
       obtain ⟨z25_0, z25_1⟩ := ca2 BK285
       obtain ⟨f25_0, f25_1⟩ := fa2 BK285
       go_wp2_with (first | ((with_reducible refine gf 16 ?_); refine gc Tryz.func16 (some 42) (spec_l08Owners.calls _ A0_0 c0_0 _ A0_1 c0_1 _ _ _ _ (cb HR0_0) HC0_0.out (cb HR0_1) HC0_1.out A24.out) ?_; rintro e w26 ⟨v290, rfl, ho0, hb⟩; refine ⟨_, rfl, ?_⟩; have HO291 := Aside0.mk (Kd.R_lower ho0 (below_size bw)); replace BK285 := b_ BK285 hb; replace HB := hs hb; try clear hb; (try clear ho0)))
       go_ret
       exact ⟨rt, bw⟩

/-! ### spec_Owners: function 5 -/
def spec_Owners.f (k : Nat) (l0_0 : List Int) (l0_1 : List (S59)) : Option (List Int) := (spec_MachOk.f k l0_0 l0_1).bind fun t294 => (if t294 = true then ((spec_l08Owners.f k l0_0 l0_1).bind fun bt295 => (some bt295.1)) else (some ([] : List Int)))
theorem spec_Owners.mono : ∀ a0 a1 k, LeO (spec_Owners.f k a0 a1) (spec_Owners.f (k + 1) a0 a1) := by
 intro a0 a1 k
 unfold spec_Owners.f
 repeat' first
  | (with_reducible first | exact spec_MachOk.mono .. | exact spec_l08Owners.mono .. | exact LeO.refl _ | exact LeO.none _ | refine LeO.ite ?_ ?_ | refine LeO.bind ?_ (fun _ => ?_))
  | exact LeO.none _ | refine LeO.ite ?_ ?_ | refine LeO.bind ?_ (fun _ => ?_)
set_option maxHeartbeats 8000000 in
set_option maxRecDepth 100000 in
theorem spec_Owners.calls (k : Nat) (A0_0 : Option Addr) (c0_0 : Nat) (l0_0 : List Int) (A0_1 : Option Addr) (c0_1 : Nat) (l0_1 : List (S59)) (r : List Int) (w : World) (hr0_0 : Kd.C (Kd.int .u32) w A0_0 l0_0.length l0_0) (hc0_0 : l0_0.length ≤ c0_0) (hr0_1 : Kd.C k59 w A0_1 l0_1.length l0_1) (hc0_1 : l0_1.length ≤ c0_1) (h : spec_Owners.f k l0_0 l0_1 = some r) :
  Calls Tryz.prog 5 #[.agg #[.slice A0_0 l0_0.length c0_0, .slice A0_1 l0_1.length c0_1]] w fun e w' => ∃ v0_ : Value, e = .returned (v0_) ∧ Kd.R (Kd.int .i64) 3 w' w.heap.size (fun _ => True) v0_ r ∧ Below w.heap.size w w' := by
 have hu34 := Tryz.underlying34
 have HR0_0 := Aside0.mk hr0_0
 have HC0_0 := Aside0.mk hc0_0
 clear hr0_0 hc0_0
 have HR0_1 := Aside0.mk hr0_1
 have HC0_1 := Aside0.mk hc0_1
 clear hr0_1 hc0_1
 have HB := Aside0.mk (Below.refl w.heap.size w)
 unfold spec_Owners.f at h
 have H := h
 clear h
 replace H := bn H
 obtain ⟨t294, A2, H⟩ := H
 try dsimp only at H
 have HU3 := Aside0.mk H
 clear H
 go_enter Tryz.func5, Tryz.ntmps5
 go_upto_if 7 with (first | ((with_reducible refine gd 1 ?_); refine bx 1 34 #[.slice A0_0 l0_0.length c0_0, .slice A0_1 l0_1.length c0_1] ?_; clear HB; intro gb293 w4 hg BK293 hb GE293 HB; clear hb hg; obtain ⟨z5_0, z5_1⟩ := ca2 BK293; obtain ⟨f5_0, f5_1⟩ := fa2 BK293) | ((with_reducible refine gf 15 ?_); refine gc Tryz.func15 (some 6) (spec_MachOk.calls _ A0_0 c0_0 _ A0_1 c0_1 _ _ _ (cb HR0_0) HC0_0.out (cb HR0_1) HC0_1.out A2.out) ?_; rintro e w6 ⟨rfl, hb⟩; refine ⟨_, rfl, ?_⟩; replace BK293 := b_ BK293 hb; replace HB := hs hb; try clear hb))
 (try refine ap ?_)
 have H := HU3.out
 clear HU3
 replace H := ib H
 rcases H with ⟨rfl, H⟩ | ⟨rfl, H⟩
 ·(try simp only [Bool.not_true, Bool.not_false])
  replace H := bn H
  obtain ⟨⟨t295, t298⟩, A8, H⟩ := H
  try dsimp only at H
  obtain rfl := Option.some.inj H
  obtain ⟨z9_0, z9_1⟩ := ca2 BK293
  obtain ⟨f9_0, f9_1⟩ := fa2 BK293
  go_wp2_with (first | ((with_reducible refine gf 16 ?_); refine gc Tryz.func16 (some 10) (spec_l08Owners.calls _ A0_0 c0_0 _ A0_1 c0_1 _ _ _ _ (cb HR0_0) HC0_0.out (cb HR0_1) HC0_1.out A8.out) ?_; rintro e w10 ⟨v296, rfl, ho0, hb⟩; refine ⟨_, rfl, ?_⟩; have HO297 := Aside0.mk (Kd.R_lower ho0 (below_size bw)); replace BK293 := b_ BK293 hb; replace HB := hs hb; try clear hb; (try clear ho0)))
  go_ret
  exact ⟨_, rt, ro HO297, bw⟩
 ·(try simp only [Bool.not_true, Bool.not_false])
  obtain rfl := Option.some.inj H
  go_wp2
  go_ret
  exact ⟨_, rt, by first | exact Kd.R_nil _ _ _ _ _ | exact Kd.N_nil _ _ _ _ _ | exact Kd.V_nil _ _ _ _ _ | exact Kd.Q_nil _ _ _ _ _ | exact Kd.S_nil _ _ _ _ _, bw⟩

/-! ### laws_toUint32S: function 29 -/
def laws_toUint32S.l0 : Nat → List Int → List Int → Int → Option (List Int)
 | 0, _, _, _ => none
 | k + 1, x0, x3, x4 => if x4 < (x0.length : Int) then (if 0 ≤ x4 then (if x4 < (x3.length : Int) then (laws_toUint32S.l0 k x0 (x3.set (x4 : Int).toNat (rd x0 x4)) (wrap64 (x4 + 1))) else (none)) else (none)) else (some x3)
def laws_toUint32S.f (k : Nat) (l0 : List Int) : Option (List Int) := if 0 ≤ (l0.length : Int) then (if ((l0.length : Int) : Int).toNat ≤ 70368744177664 then (laws_toUint32S.l0 k l0 (List.replicate ((l0.length : Int) : Int).toNat 0) 0) else (none)) else (none)
theorem laws_toUint32S.mono_l : ∀ k, (∀ y0 y1 y2, LeO (laws_toUint32S.l0 k y0 y1 y2) (laws_toUint32S.l0 (k + 1) y0 y1 y2))
 | 0 => fun _ _ _ r h => by simp [laws_toUint32S.l0] at h
 | k + 1 => by
  have ih0 := laws_toUint32S.mono_l k
  ·intro y0 y1 y2
   unfold laws_toUint32S.l0
   repeat' first
    | (with_reducible first | exact ih0 .. | exact LeO.refl _ | exact LeO.none _ | refine LeO.ite ?_ ?_ | refine LeO.bind ?_ (fun _ => ?_))
    | exact LeO.none _ | refine LeO.ite ?_ ?_ | refine LeO.bind ?_ (fun _ => ?_)
theorem laws_toUint32S.mono : ∀ a0 k, LeO (laws_toUint32S.f k a0) (laws_toUint32S.f (k + 1) a0) := by
 intro a0 k
 have ih0 := laws_toUint32S.mono_l k
 unfold laws_toUint32S.f
 repeat' first
  | (with_reducible first | exact ih0 .. | exact LeO.refl _ | exact LeO.none _ | refine LeO.ite ?_ ?_ | refine LeO.bind ?_ (fun _ => ?_))
  | exact LeO.none _ | refine LeO.ite ?_ ?_ | refine LeO.bind ?_ (fun _ => ?_)
set_option maxHeartbeats 8000000 in
set_option maxRecDepth 100000 in
theorem laws_toUint32S.calls (k : Nat) (A0 : Option Addr) (c0 : Nat) (l0 : List Int) (r : List Int) (w : World) (hr0 : Kd.C (Kd.int .u32) w A0 l0.length l0) (hc0 : l0.length ≤ c0) (h : laws_toUint32S.f k l0 = some r) :
  Calls Tryz.prog 29 #[.slice A0 l0.length c0] w fun e w' => ∃ v0_ : Value, e = .returned (v0_) ∧ Kd.R (Kd.int .u32) 54 w' w.heap.size (fun _ => True) v0_ r ∧ Below w.heap.size w w' := by
 have HR0 := Aside0.mk hr0
 have HC0 := Aside0.mk hc0
 clear hr0 hc0
 have HB := Aside0.mk (Below.refl w.heap.size w)
 unfold laws_toUint32S.f at h
 have H := h
 clear h
 by_cases c2 : 0 ≤ (l0.length : Int)
 ·rw [if_pos c2] at H
  have c2b0 := eq_true c2
  have c2b1 : decide (0 ≤ (l0.length : Int)) = true := decide_eq_true c2
  clear c2
  by_cases c3 : ((l0.length : Int) : Int).toNat ≤ 70368744177664
  ·rw [if_pos c3] at H
   have c3b0 := eq_true c3
   have c3b1 : decide (((l0.length : Int) : Int).toNat ≤ 70368744177664) = true := decide_eq_true c3
   clear c3
   obtain ⟨y299, hy299⟩ : ∃ y_ : List Int, y_ = (List.replicate ((l0.length : Int) : Int).toNat 0) := ⟨_, rfl⟩
   rw [← hy299] at H
   try with_reducible replace H := bs H
   have Ny299 := Aside0.mk hy299
   clear hy299
   have H' := Aside0.mk H
   clear H
   go_enter Tryz.func29, Tryz.ntmps29
   go_wp2_with (first | ((with_reducible refine gate_dst (N := 7) rfl ?_); refine Kd.R_make (Kd.int .u32) _ 54 rfl (N := 7) rfl 22 _ _ rfl (l0.length : Int) rfl rfl Tryz.underlying22 (.int .u32 0) 4 info54 rfl (by decide) (by omega) 0 (ok := fun _ => True) (okp := fun _ => True) rfl (fun _ hk => hk) trivial (of_decide_eq_true as_) (Nat.le_trans (Nat.mul_le_mul_right _ (of_decide_eq_true as_ : (l0.length : Int).toNat ≤ 70368744177664)) (by omega)) (Below.refl _ _) (Nat.le_refl _) ?_; intro v300 w4 ho5 hb hg_ hnew_; clear hg_ hnew_; (first | rw [← Ny299.out] at ho5 | (simp only [Int.reduceToNat] at ho5; rw [← Ny299.out] at ho5)); have HO301 := Aside0.mk (Kd.R_lower ho5 (below_size bw)); replace HB := hs hb; clear hb ho5))
   go_loopg [4] k (fun kq v4 w' => ∃ (x3_1 : List Int) (x4_1 : Int), v4 = .int .i64 x4_1 ∧ Aside0 (laws_toUint32S.l0 kq l0 x3_1 x4_1 = some r) ∧ Aside0 (kq ≤ k) ∧ Aside0 (Kd.R (Kd.int .u32) 54 w' w.heap.size (fun _ => True) v300 x3_1) ∧ Aside0 (Below w.heap.size w w'))
   case atStart => exact ⟨(y299), (0), ev, H', ⟨Nat.le_refl _⟩, ⟨ro HO301⟩, ⟨bw⟩⟩
   case round =>
    clear H'
    try clear c2
    try clear c2b0
    try clear c2b1
    try clear c3
    try clear c3b0
    try clear c3b1
    obtain ⟨x3_1, x4_1, rfl, HA, HK1, HO_3, HB⟩ := hrel
    cases gk with
    | zero => exact absurd HA.out (by simp [laws_toUint32S.l0])
    | succ k1 =>
     have H := HA.out
     clear HA
     simp only [laws_toUint32S.l0] at H
     replace H := ilt H
     rcases H with ⟨c6b0, H⟩ | ⟨c6b0, H⟩
     ·by_cases c7 : 0 ≤ x4_1
      ·rw [if_pos c7] at H
       have c7b0 : decide (0 ≤ x4_1) = true := decide_eq_true c7
       clear c7
       by_cases c8 : x4_1 < (x3_1.length : Int)
       ·rw [if_pos c8] at H
        have c8b0 : decide (x4_1 < (x3_1.length : Int)) = true := decide_eq_true c8
        clear c8
        obtain ⟨y303, hy303⟩ : ∃ y_ : List Int, y_ = (x3_1.set (x4_1 : Int).toNat (rd l0 x4_1)) := ⟨_, rfl⟩
        rw [← hy303] at H
        try with_reducible replace H := bs H
        have Ny303 := Aside0.mk hy303
        clear hy303
        have H' := Aside0.mk H
        clear H
        have p302 : 0 ≤ (x4_1 : Int) := of_decide_eq_true as_
        have q302 : x4_1 < (l0.length : Int) := of_decide_eq_true as_
        obtain ⟨ad302, e302, hx302_0⟩ := Kd.at_int HR0.out x4_1 p302 q302
        cases e302
        replace hx302_0 := cl HB hx302_0
        replace p302 := eq_true p302
        replace q302 := eq_true q302
        have p9 : 0 ≤ (x4_1 : Int) := of_decide_eq_true as_
        have q9 : (x4_1 : Int) < ((x3_1.length : Int) : Int) := of_decide_eq_true as_
        obtain ⟨go9, co9, eo9, gb9, gl9, cl9, HG9⟩ := Kd.R_form HO_3.out (by omega)
        (first | cases eo9 | (injection eo9 with ea_ en_ ec_; (first | subst ea_ | (injection ea_ with ea_; subst ea_)); subst ec_; clear en_))
        have GB9 := Aside0.mk gb9
        have GG9 := Aside0.mk HG9
        clear gb9 gl9 HG9
        obtain ⟨hx9_0, hf9_0⟩ := Kd.R_celln 0 HO_3.out (x4_1 : Int) p9 q9
        replace p9 := eq_true p9
        replace q9 := eq_true q9
        have HP10 := Kd.R_putg HO_3.out (x4_1 : Int) (rd l0 x4_1)
        go_wp2_with (first | ((with_reducible refine gate_store (t := 54) (p := 20) rfl ?_); refine store_event (t := 54) (p := 20) (v := ?vo_w11) (w1 := (wr.setCell ⟨go9, (x4_1 : Int).toNat, none⟩ (.int .u32 (rd l0 x4_1)))) ?hg ?ho ?hn ?hr ?_; (case ho => rfl); (case hg => rfl); (case hn => rfl); (case hr => first | (go_simp; done) | (go_simp; rfl)); intro w11 hw; have hg : wr.grownBy w11 (some go9) := (by rw [hw]; exact HP10.2); have hp_ : Kd.R (Kd.int .u32) 54 w11 w.heap.size (fun _ => True) (.slice (some ⟨go9, 0, none⟩) x3_1.length co9) y303 := (by rw [hw, Ny303.out]; exact HP10.1); clear HP10; replace HO_3 := Aside0.mk (hp_); replace HB := Aside0.mk ((by rw [hw]; exact below_set (HB.out) GB9.out : Below w.heap.size w w11)); clear hg hw hp_))
        go_roundg k1
        case measure => have := HK1.out; omega
        case rel => exact ⟨(y303), (wrap64 (x4_1 + 1)), ev, H', ⟨oa HK1⟩, ⟨ro HO_3⟩, ⟨bw⟩⟩
       ·rw [if_neg c8] at H
        exact absurd H (by simp)
      ·rw [if_neg c7] at H
       exact absurd H (by simp)
     ·obtain rfl := Option.some.inj H
      go_wp2
      go_ret
      exact ⟨_, rt, ro HO_3, bw⟩
  ·rw [if_neg c3] at H
   exact absurd H (by simp)
 ·rw [if_neg c2] at H
  exact absurd H (by simp)

/-! ### laws_toMem: function 17 -/
def laws_toMem.f (k : Nat) (l0_0 : List Int) : Option (List Int) := (laws_toUint32S.f k l0_0).bind fun t307 => (some t307)
theorem laws_toMem.mono : ∀ a0 k, LeO (laws_toMem.f k a0) (laws_toMem.f (k + 1) a0) := by
 intro a0 k
 unfold laws_toMem.f
 repeat' first
  | (with_reducible first | exact laws_toUint32S.mono .. | exact LeO.refl _ | exact LeO.none _ | refine LeO.ite ?_ ?_ | refine LeO.bind ?_ (fun _ => ?_))
  | exact LeO.none _ | refine LeO.ite ?_ ?_ | refine LeO.bind ?_ (fun _ => ?_)
set_option maxHeartbeats 8000000 in
set_option maxRecDepth 100000 in
theorem laws_toMem.calls (k : Nat) (A0_0 : Option Addr) (c0_0 : Nat) (l0_0 : List Int) (r : List Int) (w : World) (hr0_0 : Kd.C (Kd.int .u32) w A0_0 l0_0.length l0_0) (hc0_0 : l0_0.length ≤ c0_0) (h : laws_toMem.f k l0_0 = some r) :
  Calls Tryz.prog 17 #[.agg #[.slice A0_0 l0_0.length c0_0]] w fun e w' => ∃ v0_ : Value, e = .returned (.agg #[v0_]) ∧ Kd.R (Kd.int .u32) 54 w' w.heap.size (fun _ => True) v0_ r ∧ Below w.heap.size w w' := by
 have hu24 := Tryz.underlying24
 have hu31 := Tryz.underlying31
 have HR0_0 := Aside0.mk hr0_0
 have HC0_0 := Aside0.mk hc0_0
 clear hr0_0 hc0_0
 have HB := Aside0.mk (Below.refl w.heap.size w)
 unfold laws_toMem.f at h
 have H := h
 clear h
 replace H := bn H
 obtain ⟨t307, A2, H⟩ := H
 try dsimp only at H
 obtain rfl := Option.some.inj H
 go_enter Tryz.func17, Tryz.ntmps17
 go_wp2_with (first | ((with_reducible refine gd 1 ?_); refine bx 1 24 #[.slice A0_0 l0_0.length c0_0] ?_; clear HB; intro gb304 w3 hg BK304 hb GE304 HB; clear hb hg) | ((with_reducible refine gd 2 ?_); refine bx 2 31 #[.slice none 0 0] ?_; clear HB; intro gb305 w4 hg BK305 hb GE305 HB; have NB304_305 := nl BK304 hg; have NB305_304 := ng BK304 hg; replace BK304 := b_ BK304 hb; clear hb hg) | ((with_reducible refine gd 3 ?_); refine bx 3 31 #[.slice none 0 0] ?_; clear HB; intro gb306 w5 hg BK306 hb GE306 HB; have NB304_306 := nl BK304 hg; have NB306_304 := ng BK304 hg; replace BK304 := b_ BK304 hb; have NB305_306 := nl BK305 hg; have NB306_305 := ng BK305 hg; replace BK305 := b_ BK305 hb; clear hb hg; have hnb6 := NB304_305.out; have hnc6 := NB305_304.out; have hnb7 := NB304_306.out; have hnc7 := NB306_304.out; have z8_0 := ca1 BK304; have f8_0 := blk_frozen BK304.out 0) | ((with_reducible refine gf 29 ?_); refine gc Tryz.func29 (some 6) (laws_toUint32S.calls _ A0_0 c0_0 _ _ _ (cb HR0_0) HC0_0.out A2.out) ?_; rintro e w9 ⟨v308, rfl, ho0, hb⟩; refine ⟨_, rfl, ?_⟩; have HO309 := Aside0.mk (Kd.R_lower ho0 (below_size bw)); replace BK304 := b_ BK304 hb; replace BK305 := b_ BK305 hb; replace BK306 := b_ BK306 hb; replace HB := hs hb; try clear hb; (try clear ho0); obtain ⟨Ao10, co10, eo10⟩ := Kd.R_slice HO309.out; subst eo10; have hnb11 := NB306_305.out; have hnc11 := NB305_306.out; have z12_0 := ca1 BK306; have f12_0 := blk_frozen BK306.out 0; have z13_0 := ca1 BK305; have f13_0 := blk_frozen BK305.out 0))
 refine bodyPost_ret (results_cell_row rfl _ _ gb305 31 #[.slice Ao10 t307.length co10] (0, 0) _ rfl (bp BK305) Tryz.underlying31 rfl kr) rfl ?_
 exact ⟨_, rt, by (with_reducible repeat (first | apply Kd.R_alloc | apply Kd.R_drewN | apply Kd.R_drew)); exact Kd.R_mono (Kd.R_far (p := ⟨gb305, 0, none⟩) (Kd.R_far (p := ⟨gb306, 0, none⟩) (Kd.R_types (Kd.R_types HO309.out BK306.out (by decide)) BK305.out (by decide)) (fun _ hk => hk.1.2) (.slice Ao10 t307.length co10)) (fun _ hk => hk.2) (.slice Ao10 t307.length co10)) (fun _ hk => trivial), bw⟩

/-! ### laws_toIntS: function 55 -/
def laws_toIntS.l0 : Nat → List Int → List Int → Int → Option (List Int)
 | 0, _, _, _ => none
 | k + 1, x0, x3, x4 => if x4 < (x0.length : Int) then (if 0 ≤ x4 then (if x4 < (x3.length : Int) then (laws_toIntS.l0 k x0 (x3.set (x4 : Int).toNat (rd x0 x4)) (wrap64 (x4 + 1))) else (none)) else (none)) else (some x3)
def laws_toIntS.f (k : Nat) (l0 : List Int) : Option (List Int) := if 0 ≤ (l0.length : Int) then (if ((l0.length : Int) : Int).toNat ≤ 35184372088832 then (laws_toIntS.l0 k l0 (List.replicate ((l0.length : Int) : Int).toNat 0) 0) else (none)) else (none)
theorem laws_toIntS.mono_l : ∀ k, (∀ y0 y1 y2, LeO (laws_toIntS.l0 k y0 y1 y2) (laws_toIntS.l0 (k + 1) y0 y1 y2))
 | 0 => fun _ _ _ r h => by simp [laws_toIntS.l0] at h
 | k + 1 => by
  have ih0 := laws_toIntS.mono_l k
  ·intro y0 y1 y2
   unfold laws_toIntS.l0
   repeat' first
    | (with_reducible first | exact ih0 .. | exact LeO.refl _ | exact LeO.none _ | refine LeO.ite ?_ ?_ | refine LeO.bind ?_ (fun _ => ?_))
    | exact LeO.none _ | refine LeO.ite ?_ ?_ | refine LeO.bind ?_ (fun _ => ?_)
theorem laws_toIntS.mono : ∀ a0 k, LeO (laws_toIntS.f k a0) (laws_toIntS.f (k + 1) a0) := by
 intro a0 k
 have ih0 := laws_toIntS.mono_l k
 unfold laws_toIntS.f
 repeat' first
  | (with_reducible first | exact ih0 .. | exact LeO.refl _ | exact LeO.none _ | refine LeO.ite ?_ ?_ | refine LeO.bind ?_ (fun _ => ?_))
  | exact LeO.none _ | refine LeO.ite ?_ ?_ | refine LeO.bind ?_ (fun _ => ?_)
set_option maxHeartbeats 8000000 in
set_option maxRecDepth 100000 in
theorem laws_toIntS.calls (k : Nat) (A0 : Option Addr) (c0 : Nat) (l0 : List Int) (r : List Int) (w : World) (hr0 : Kd.C (Kd.int .i64) w A0 l0.length l0) (hc0 : l0.length ≤ c0) (h : laws_toIntS.f k l0 = some r) :
  Calls Tryz.prog 55 #[.slice A0 l0.length c0] w fun e w' => ∃ v0_ : Value, e = .returned (v0_) ∧ Kd.R (Kd.int .i64) 3 w' w.heap.size (fun _ => True) v0_ r ∧ Below w.heap.size w w' := by
 have HR0 := Aside0.mk hr0
 have HC0 := Aside0.mk hc0
 clear hr0 hc0
 have HB := Aside0.mk (Below.refl w.heap.size w)
 unfold laws_toIntS.f at h
 have H := h
 clear h
 by_cases c2 : 0 ≤ (l0.length : Int)
 ·rw [if_pos c2] at H
  have c2b0 := eq_true c2
  have c2b1 : decide (0 ≤ (l0.length : Int)) = true := decide_eq_true c2
  clear c2
  by_cases c3 : ((l0.length : Int) : Int).toNat ≤ 35184372088832
  ·rw [if_pos c3] at H
   have c3b0 := eq_true c3
   have c3b1 : decide (((l0.length : Int) : Int).toNat ≤ 35184372088832) = true := decide_eq_true c3
   clear c3
   obtain ⟨y310, hy310⟩ : ∃ y_ : List Int, y_ = (List.replicate ((l0.length : Int) : Int).toNat 0) := ⟨_, rfl⟩
   rw [← hy310] at H
   try with_reducible replace H := bs H
   have Ny310 := Aside0.mk hy310
   clear hy310
   have H' := Aside0.mk H
   clear H
   go_enter Tryz.func55, Tryz.ntmps55
   go_wp2_with (first | ((with_reducible refine gate_dst (N := 7) rfl ?_); refine Kd.R_make (Kd.int .i64) _ 3 rfl (N := 7) rfl 29 _ _ rfl (l0.length : Int) rfl rfl Tryz.underlying29 (.int .i64 0) 8 info3 rfl (by decide) (by omega) 0 (ok := fun _ => True) (okp := fun _ => True) rfl (fun _ hk => hk) trivial (of_decide_eq_true as_) (Nat.le_trans (Nat.mul_le_mul_right _ (of_decide_eq_true as_ : (l0.length : Int).toNat ≤ 35184372088832)) (by omega)) (Below.refl _ _) (Nat.le_refl _) ?_; intro v311 w4 ho5 hb hg_ hnew_; clear hg_ hnew_; (first | rw [← Ny310.out] at ho5 | (simp only [Int.reduceToNat] at ho5; rw [← Ny310.out] at ho5)); have HO312 := Aside0.mk (Kd.R_lower ho5 (below_size bw)); replace HB := hs hb; clear hb ho5))
   go_loopg [4] k (fun kq v4 w' => ∃ (x3_1 : List Int) (x4_1 : Int), v4 = .int .i64 x4_1 ∧ Aside0 (laws_toIntS.l0 kq l0 x3_1 x4_1 = some r) ∧ Aside0 (kq ≤ k) ∧ Aside0 (Kd.R (Kd.int .i64) 3 w' w.heap.size (fun _ => True) v311 x3_1) ∧ Aside0 (Below w.heap.size w w'))
   case atStart => exact ⟨(y310), (0), ev, H', ⟨Nat.le_refl _⟩, ⟨ro HO312⟩, ⟨bw⟩⟩
   case round =>
    clear H'
    try clear c2
    try clear c2b0
    try clear c2b1
    try clear c3
    try clear c3b0
    try clear c3b1
    obtain ⟨x3_1, x4_1, rfl, HA, HK1, HO_3, HB⟩ := hrel
    cases gk with
    | zero => exact absurd HA.out (by simp [laws_toIntS.l0])
    | succ k1 =>
     have H := HA.out
     clear HA
     simp only [laws_toIntS.l0] at H
     replace H := ilt H
     rcases H with ⟨c6b0, H⟩ | ⟨c6b0, H⟩
     ·by_cases c7 : 0 ≤ x4_1
      ·rw [if_pos c7] at H
       have c7b0 : decide (0 ≤ x4_1) = true := decide_eq_true c7
       clear c7
       by_cases c8 : x4_1 < (x3_1.length : Int)
       ·rw [if_pos c8] at H
        have c8b0 : decide (x4_1 < (x3_1.length : Int)) = true := decide_eq_true c8
        clear c8
        obtain ⟨y314, hy314⟩ : ∃ y_ : List Int, y_ = (x3_1.set (x4_1 : Int).toNat (rd l0 x4_1)) := ⟨_, rfl⟩
        rw [← hy314] at H
        try with_reducible replace H := bs H
        have Ny314 := Aside0.mk hy314
        clear hy314
        have H' := Aside0.mk H
        clear H
        have p313 : 0 ≤ (x4_1 : Int) := of_decide_eq_true as_
        have q313 : x4_1 < (l0.length : Int) := of_decide_eq_true as_
        obtain ⟨ad313, e313, hx313_0⟩ := Kd.at_int HR0.out x4_1 p313 q313
        cases e313
        replace hx313_0 := cl HB hx313_0
        replace p313 := eq_true p313
        replace q313 := eq_true q313
        have p9 : 0 ≤ (x4_1 : Int) := of_decide_eq_true as_
        have q9 : (x4_1 : Int) < ((x3_1.length : Int) : Int) := of_decide_eq_true as_
        obtain ⟨go9, co9, eo9, gb9, gl9, cl9, HG9⟩ := Kd.R_form HO_3.out (by omega)
        (first | cases eo9 | (injection eo9 with ea_ en_ ec_; (first | subst ea_ | (injection ea_ with ea_; subst ea_)); subst ec_; clear en_))
        have GB9 := Aside0.mk gb9
        have GG9 := Aside0.mk HG9
        clear gb9 gl9 HG9
        obtain ⟨hx9_0, hf9_0⟩ := Kd.R_celln 0 HO_3.out (x4_1 : Int) p9 q9
        replace p9 := eq_true p9
        replace q9 := eq_true q9
        have HP10 := Kd.R_putg HO_3.out (x4_1 : Int) (rd l0 x4_1)
        go_wp2_with (first | ((with_reducible refine gate_store (t := 3) (p := 20) rfl ?_); refine store_event (t := 3) (p := 20) (v := ?vo_w11) (w1 := (wr.setCell ⟨go9, (x4_1 : Int).toNat, none⟩ (.int .i64 (rd l0 x4_1)))) ?hg ?ho ?hn ?hr ?_; (case ho => rfl); (case hg => rfl); (case hn => rfl); (case hr => first | (go_simp; done) | (go_simp; rfl)); intro w11 hw; have hg : wr.grownBy w11 (some go9) := (by rw [hw]; exact HP10.2); have hp_ : Kd.R (Kd.int .i64) 3 w11 w.heap.size (fun _ => True) (.slice (some ⟨go9, 0, none⟩) x3_1.length co9) y314 := (by rw [hw, Ny314.out]; exact HP10.1); clear HP10; replace HO_3 := Aside0.mk (hp_); replace HB := Aside0.mk ((by rw [hw]; exact below_set (HB.out) GB9.out : Below w.heap.size w w11)); clear hg hw hp_))
        go_roundg k1
        case measure => have := HK1.out; omega
        case rel => exact ⟨(y314), (wrap64 (x4_1 + 1)), ev, H', ⟨oa HK1⟩, ⟨ro HO_3⟩, ⟨bw⟩⟩
       ·rw [if_neg c8] at H
        exact absurd H (by simp)
      ·rw [if_neg c7] at H
       exact absurd H (by simp)
     ·obtain rfl := Option.some.inj H
      go_wp2
      go_ret
      exact ⟨_, rt, ro HO_3, bw⟩
  ·rw [if_neg c3] at H
   exact absurd H (by simp)
 ·rw [if_neg c2] at H
  exact absurd H (by simp)

/-! ### laws_toWarp: function 30 -/
def laws_toWarp.f (k : Nat) (a0_0 : Int) (l0_1 : List Int) (l0_2 : List Int) (a0_3 : Int) (a0_4 : Int) (a0_5 : Int) (a0_6 : Int) (a0_7 : Int) : Option (Int × List Int × List Int × Int × Int × Int × Int × Int) := (laws_toIntS.f k l0_1).bind fun t318 => ((laws_toIntS.f k l0_2).bind fun t321 => (some (a0_0, t318, t321, a0_3, a0_4, a0_5, a0_6, a0_7)))
theorem laws_toWarp.mono : ∀ a0 a1 a2 a3 a4 a5 a6 a7 k, LeO (laws_toWarp.f k a0 a1 a2 a3 a4 a5 a6 a7) (laws_toWarp.f (k + 1) a0 a1 a2 a3 a4 a5 a6 a7) := by
 intro a0 a1 a2 a3 a4 a5 a6 a7 k
 unfold laws_toWarp.f
 repeat' first
  | (with_reducible first | exact laws_toIntS.mono .. | exact LeO.refl _ | exact LeO.none _ | refine LeO.ite ?_ ?_ | refine LeO.bind ?_ (fun _ => ?_))
  | exact LeO.none _ | refine LeO.ite ?_ ?_ | refine LeO.bind ?_ (fun _ => ?_)
set_option maxHeartbeats 8000000 in
set_option maxRecDepth 100000 in
theorem laws_toWarp.calls (k : Nat) (a0_0 : Int) (A0_1 : Option Addr) (c0_1 : Nat) (l0_1 : List Int) (A0_2 : Option Addr) (c0_2 : Nat) (l0_2 : List Int) (a0_3 : Int) (a0_4 : Int) (a0_5 : Int) (a0_6 : Int) (a0_7 : Int) (r1 : Int) (r2 : List Int) (r3 : List Int) (r4 : Int) (r5 : Int) (r6 : Int) (r7 : Int) (r8 : Int) (w : World) (hr0_1 : Kd.C (Kd.int .i64) w A0_1 l0_1.length l0_1) (hc0_1 : l0_1.length ≤ c0_1) (hr0_2 : Kd.C (Kd.int .i64) w A0_2 l0_2.length l0_2) (hc0_2 : l0_2.length ≤ c0_2) (h : laws_toWarp.f k a0_0 l0_1 l0_2 a0_3 a0_4 a0_5 a0_6 a0_7 = some (r1, r2, r3, r4, r5, r6, r7, r8)) :
  Calls Tryz.prog 30 #[.agg #[.int .i64 a0_0, .slice A0_1 l0_1.length c0_1, .slice A0_2 l0_2.length c0_2, .int .u32 a0_3, .int .i64 a0_4, .int .i64 a0_5, .int .i64 a0_6, .int .u32 a0_7]] w fun e w' => ∃ v1_ v2_ : Value, e = .returned (.agg #[.int .i64 r1, v1_, v2_, .int .u32 r4, .int .i64 r5, .int .i64 r6, .int .i64 r7, .int .u32 r8]) ∧ Kd.R (Kd.int .i64) 3 w' w.heap.size (fun k_ => some k_ ≠ (v2_ : Value).ownBlock) v1_ r2 ∧ Kd.R (Kd.int .i64) 3 w' w.heap.size (fun k_ => some k_ ≠ (v1_ : Value).ownBlock) v2_ r3 ∧ Below w.heap.size w w' := by
 have hu56 := Tryz.underlying56
 have hu59 := Tryz.underlying59
 have HR0_1 := Aside0.mk hr0_1
 have HC0_1 := Aside0.mk hc0_1
 clear hr0_1 hc0_1
 have HR0_2 := Aside0.mk hr0_2
 have HC0_2 := Aside0.mk hc0_2
 clear hr0_2 hc0_2
 have HB := Aside0.mk (Below.refl w.heap.size w)
 unfold laws_toWarp.f at h
 have H := h
 clear h
 replace H := bn H
 obtain ⟨t318, A2, H⟩ := H
 try dsimp only at H
 replace H := bn H
 obtain ⟨t321, A3, H⟩ := H
 try dsimp only at H
 simp only [Option.some.injEq, Prod.mk.injEq] at H
 obtain ⟨rfl, rfl, rfl, rfl, rfl, rfl, rfl, rfl⟩ := H
 go_enter Tryz.func30, Tryz.ntmps30
 go_wp2_with (first | ((with_reducible refine gd 1 ?_); refine bx 1 56 #[.int .i64 a0_0, .slice A0_1 l0_1.length c0_1, .slice A0_2 l0_2.length c0_2, .int .u32 a0_3, .int .i64 a0_4, .int .i64 a0_5, .int .i64 a0_6, .int .u32 a0_7] ?_; clear HB; intro gb315 w4 hg BK315 hb GE315 HB; clear hb hg) | ((with_reducible refine gd 2 ?_); refine bx 2 59 #[.int .i64 0, .slice none 0 0, .slice none 0 0, .int .u32 0, .int .i64 0, .int .i64 0, .int .i64 0, .int .u32 0] ?_; clear HB; intro gb316 w5 hg BK316 hb GE316 HB; have NB315_316 := nl BK315 hg; have NB316_315 := ng BK315 hg; replace BK315 := b_ BK315 hb; clear hb hg) | ((with_reducible refine gd 3 ?_); refine bx 3 59 #[.int .i64 0, .slice none 0 0, .slice none 0 0, .int .u32 0, .int .i64 0, .int .i64 0, .int .i64 0, .int .u32 0] ?_; clear HB; intro gb317 w6 hg BK317 hb GE317 HB; have NB315_317 := nl BK315 hg; have NB317_315 := ng BK315 hg; replace BK315 := b_ BK315 hb; have NB316_317 := nl BK316 hg; have NB317_316 := ng BK316 hg; replace BK316 := b_ BK316 hb; clear hb hg; have hnb7 := NB315_316.out; have hnc7 := NB316_315.out; have hnb8 := NB315_317.out; have hnc8 := NB317_315.out; obtain ⟨z9_0, z9_1, z9_2, z9_3, z9_4, z9_5, z9_6, z9_7⟩ := ca8 BK315; obtain ⟨f9_0, f9_1, f9_2, f9_3, f9_4, f9_5, f9_6, f9_7⟩ := fa8 BK315; have hnb10 := NB317_316.out; have hnc10 := NB316_317.out; obtain ⟨z11_0, z11_1, z11_2, z11_3, z11_4, z11_5, z11_6, z11_7⟩ := ca8 BK317; obtain ⟨f11_0, f11_1, f11_2, f11_3, f11_4, f11_5, f11_6, f11_7⟩ := fa8 BK317) | ((with_reducible refine gf 55 ?_); refine gc Tryz.func55 (some 9) (laws_toIntS.calls _ A0_1 c0_1 _ _ _ (Kd.C_below HR0_1.out bw) HC0_1.out A2.out) ?_; rintro e w12 ⟨v319, rfl, ho0, hb⟩; refine ⟨_, rfl, ?_⟩; have HO320 := Aside0.mk (Kd.R_lower ho0 (below_size bw)); replace BK315 := b_ BK315 hb; replace BK316 := b_ BK316 hb; replace BK317 := bq BK317 #[.int .i64 a0_0, .slice none 0 0, .slice none 0 0, .int .u32 0, .int .i64 0, .int .i64 0, .int .i64 0, .int .u32 0] hb; replace HB := hs hb; try clear hb; (try clear ho0); obtain ⟨Ao13, co13, eo13⟩ := Kd.R_slice HO320.out; subst eo13; obtain ⟨z14_0, z14_1, z14_2, z14_3, z14_4, z14_5, z14_6, z14_7⟩ := ca8 BK317; obtain ⟨f14_0, f14_1, f14_2, f14_3, f14_4, f14_5, f14_6, f14_7⟩ := fa8 BK317; obtain ⟨z15_0, z15_1, z15_2, z15_3, z15_4, z15_5, z15_6, z15_7⟩ := ca8 BK315; obtain ⟨f15_0, f15_1, f15_2, f15_3, f15_4, f15_5, f15_6, f15_7⟩ := fa8 BK315) | ((with_reducible refine gf 55 ?_); refine gc Tryz.func55 (some 13) (laws_toIntS.calls _ A0_2 c0_2 _ _ _ (Kd.C_below HR0_2.out bw) HC0_2.out A3.out) ?_; rintro e w16 ⟨v322, rfl, ho0, hb⟩; refine ⟨_, rfl, ?_⟩; have HO323 := Aside0.mk (Kd.R_lower (Kd.R_new' ho0 (Kd.R_lt (rx HO320 BK317))) (below_size bw)); replace HO320 := Aside0.mk (Kd.R_elder' (rx HO320 BK317) (Kd.R_base ho0) hb); replace BK315 := b_ BK315 hb; replace BK316 := b_ BK316 hb; replace BK317 := bq BK317 #[.int .i64 a0_0, .slice Ao13 t318.length co13, .slice none 0 0, .int .u32 0, .int .i64 0, .int .i64 0, .int .i64 0, .int .u32 0] hb; replace HB := hs hb; try clear hb; (try clear ho0); obtain ⟨Ao17, co17, eo17⟩ := Kd.R_slice HO323.out; subst eo17; obtain ⟨z18_0, z18_1, z18_2, z18_3, z18_4, z18_5, z18_6, z18_7⟩ := ca8 BK317; obtain ⟨f18_0, f18_1, f18_2, f18_3, f18_4, f18_5, f18_6, f18_7⟩ := fa8 BK317; obtain ⟨z19_0, z19_1, z19_2, z19_3, z19_4, z19_5, z19_6, z19_7⟩ := ca8 BK315; obtain ⟨f19_0, f19_1, f19_2, f19_3, f19_4, f19_5, f19_6, f19_7⟩ := fa8 BK315; obtain ⟨z20_0, z20_1, z20_2, z20_3, z20_4, z20_5, z20_6, z20_7⟩ := ca8 BK316; obtain ⟨f20_0, f20_1, f20_2, f20_3, f20_4, f20_5, f20_6, f20_7⟩ := fa8 BK316))
 refine bodyPost_ret (results_cell_row rfl _ _ gb316 59 #[.int .i64 a0_0, .slice Ao13 t318.length co13, .slice Ao17 t321.length co17, .int .u32 a0_3, .int .i64 a0_4, .int .i64 a0_5, .int .i64 a0_6, .int .u32 a0_7] (0, 0) _ rfl (bp BK316) Tryz.underlying59 rfl kr) rfl ?_
 exact ⟨_, _, rt, by (with_reducible repeat (first | apply Kd.R_alloc | apply Kd.R_drewN | apply Kd.R_drew)); exact Kd.R_mono (Kd.R_far (p := ⟨gb316, 7, none⟩) (Kd.R_far (p := ⟨gb316, 6, none⟩) (Kd.R_far (p := ⟨gb316, 5, none⟩) (Kd.R_far (p := ⟨gb316, 4, none⟩) (Kd.R_far (p := ⟨gb316, 3, none⟩) (Kd.R_far (p := ⟨gb316, 2, none⟩) (Kd.R_far (p := ⟨gb316, 1, none⟩) (Kd.R_far (p := ⟨gb316, 0, none⟩) (Kd.R_far (p := ⟨gb317, 7, none⟩) (Kd.R_far (p := ⟨gb317, 6, none⟩) (Kd.R_far (p := ⟨gb317, 5, none⟩) (Kd.R_far (p := ⟨gb317, 4, none⟩) (Kd.R_far (p := ⟨gb317, 3, none⟩) (Kd.R_far (p := ⟨gb317, 2, none⟩) (Kd.R_types (Kd.R_types HO320.out BK317.out (by decide)) BK316.out (by decide)) (fun _ hk => hk.1.2) (.slice Ao17 t321.length co17)) (fun _ hk => hk.1.2) (.int .u32 a0_3)) (fun _ hk => hk.1.2) (.int .i64 a0_4)) (fun _ hk => hk.1.2) (.int .i64 a0_5)) (fun _ hk => hk.1.2) (.int .i64 a0_6)) (fun _ hk => hk.1.2) (.int .u32 a0_7)) (fun _ hk => hk.2) (.int .i64 a0_0)) (fun _ hk => hk.2) (.slice Ao13 t318.length co13)) (fun _ hk => hk.2) (.slice Ao17 t321.length co17)) (fun _ hk => hk.2) (.int .u32 a0_3)) (fun _ hk => hk.2) (.int .i64 a0_4)) (fun _ hk => hk.2) (.int .i64 a0_5)) (fun _ hk => hk.2) (.int .i64 a0_6)) (fun _ hk => hk.2) (.int .u32 a0_7)) (fun _ hk => hk.1.1.2), by (with_reducible repeat (first | apply Kd.R_alloc | apply Kd.R_drewN | apply Kd.R_drew)); exact Kd.R_mono (Kd.R_far (p := ⟨gb316, 7, none⟩) (Kd.R_far (p := ⟨gb316, 6, none⟩) (Kd.R_far (p := ⟨gb316, 5, none⟩) (Kd.R_far (p := ⟨gb316, 4, none⟩) (Kd.R_far (p := ⟨gb316, 3, none⟩) (Kd.R_far (p := ⟨gb316, 2, none⟩) (Kd.R_far (p := ⟨gb316, 1, none⟩) (Kd.R_far (p := ⟨gb316, 0, none⟩) (Kd.R_far (p := ⟨gb317, 7, none⟩) (Kd.R_far (p := ⟨gb317, 6, none⟩) (Kd.R_far (p := ⟨gb317, 5, none⟩) (Kd.R_far (p := ⟨gb317, 4, none⟩) (Kd.R_far (p := ⟨gb317, 3, none⟩) (Kd.R_far (p := ⟨gb317, 2, none⟩) (Kd.R_types (Kd.R_types HO323.out BK317.out (by decide)) BK316.out (by decide)) (fun _ hk => hk.1.2) (.slice Ao17 t321.length co17)) (fun _ hk => hk.1.2) (.int .u32 a0_3)) (fun _ hk => hk.1.2) (.int .i64 a0_4)) (fun _ hk => hk.1.2) (.int .i64 a0_5)) (fun _ hk => hk.1.2) (.int .i64 a0_6)) (fun _ hk => hk.1.2) (.int .u32 a0_7)) (fun _ hk => hk.2) (.int .i64 a0_0)) (fun _ hk => hk.2) (.slice Ao13 t318.length co13)) (fun _ hk => hk.2) (.slice Ao17 t321.length co17)) (fun _ hk => hk.2) (.int .u32 a0_3)) (fun _ hk => hk.2) (.int .i64 a0_4)) (fun _ hk => hk.2) (.int .i64 a0_5)) (fun _ hk => hk.2) (.int .i64 a0_6)) (fun _ hk => hk.2) (.int .u32 a0_7)) (fun _ hk => hk.1.1.2), bw⟩

end Go.Proofs.YtfhcnnkeokjfpaaGreatDoor.PO1
namespace Go.Proofs.YtfhcnnkeokjfpaaGreatDoor.PO1
open Go.RowKit Go.Proofs.YtfhcnnkeokjfpaaGreatDoorW.PrintWords Go.Proofs.YtfhcnnkeokjfpaaGreatDoorW.PrintLast Go.Proofs.YtfhcnnkeokjfpaaGreatDoorW.PrintMore Go.Proofs.YtfhcnnkeokjfpaaGreatDoor.T
attribute [local go_sem] max2_int min2_int max_two min_two max_three min_three max_four min_four   -- for this text's walks alone
set_option linter.unusedVariables false
set_option linter.unusedSimpArgs false

attribute [local go_sem high] eqA61
/-! ### laws_toWarpS: function 18 -/
def laws_toWarpS.l0 : Nat → List (S56) → List (S59) → Int → Option ((List (S59)))
 | 0, _, _, _ => none
 | k + 1, x0, x3, x4 => if x4 < (x0.length : Int) then (if 0 ≤ x4 then ((laws_toWarp.f k ((rd_T56 x0 x4).f0) ((rd_T56 x0 x4).f1) ((rd_T56 x0 x4).f2) ((rd_T56 x0 x4).f3) ((rd_T56 x0 x4).f4) ((rd_T56 x0 x4).f5) ((rd_T56 x0 x4).f6) ((rd_T56 x0 x4).f7)).bind fun bt328 => (if x4 < (x3.length : Int) then (laws_toWarpS.l0 k x0 (x3.set (x4 : Int).toNat (⟨bt328.1, bt328.2.1, bt328.2.2.1, bt328.2.2.2.1, bt328.2.2.2.2.1, bt328.2.2.2.2.2.1, bt328.2.2.2.2.2.2.1, bt328.2.2.2.2.2.2.2⟩ : S59)) (wrap64 (x4 + 1))) else (none))) else (none)) else (some x3)
def laws_toWarpS.f (k : Nat) (l0 : List (S56)) : Option ((List (S59))) := if 0 ≤ (l0.length : Int) then (if ((l0.length : Int) : Int).toNat ≤ 2932031007402 then (laws_toWarpS.l0 k l0 (List.replicate ((l0.length : Int) : Int).toNat z59) 0) else (none)) else (none)
theorem laws_toWarpS.mono_l : ∀ k, (∀ y0 y1 y2, LeO (laws_toWarpS.l0 k y0 y1 y2) (laws_toWarpS.l0 (k + 1) y0 y1 y2))
 | 0 => fun _ _ _ r h => by simp [laws_toWarpS.l0] at h
 | k + 1 => by
  have ih0 := laws_toWarpS.mono_l k
  ·intro y0 y1 y2
   unfold laws_toWarpS.l0
   repeat' first
    | (with_reducible first | exact ih0 .. | exact laws_toWarp.mono .. | exact LeO.refl _ | exact LeO.none _ | refine LeO.ite ?_ ?_ | refine LeO.bind ?_ (fun _ => ?_))
    | exact LeO.none _ | refine LeO.ite ?_ ?_ | refine LeO.bind ?_ (fun _ => ?_)
theorem laws_toWarpS.mono : ∀ a0 k, LeO (laws_toWarpS.f k a0) (laws_toWarpS.f (k + 1) a0) := by
 intro a0 k
 have ih0 := laws_toWarpS.mono_l k
 unfold laws_toWarpS.f
 repeat' first
  | (with_reducible first | exact ih0 .. | exact laws_toWarp.mono .. | exact LeO.refl _ | exact LeO.none _ | refine LeO.ite ?_ ?_ | refine LeO.bind ?_ (fun _ => ?_))
  | exact LeO.none _ | refine LeO.ite ?_ ?_ | refine LeO.bind ?_ (fun _ => ?_)
set_option maxHeartbeats 8000000 in
set_option maxRecDepth 100000 in
theorem laws_toWarpS.calls (k : Nat) (A0 : Option Addr) (c0 : Nat) (l0 : List (S56)) (r : List (S59)) (w : World) (hr0 : Kd.C k56 w A0 l0.length l0) (hc0 : l0.length ≤ c0) (h : laws_toWarpS.f k l0 = some r) :
  Calls Tryz.prog 18 #[.slice A0 l0.length c0] w fun e w' => ∃ v0_ : Value, e = .returned (v0_) ∧ Kd.S k59 59 w' w.heap.size (fun _ => True) v0_ r ∧ Below w.heap.size w w' := by
 have hu56 := Tryz.underlying56
 have hu59 := Tryz.underlying59
 have HR0 := Aside0.mk hr0
 have HC0 := Aside0.mk hc0
 clear hr0 hc0
 have HB := Aside0.mk (Below.refl w.heap.size w)
 unfold laws_toWarpS.f at h
 have H := h
 clear h
 by_cases c2 : 0 ≤ (l0.length : Int)
 ·rw [if_pos c2] at H
  have c2b0 := eq_true c2
  have c2b1 : decide (0 ≤ (l0.length : Int)) = true := decide_eq_true c2
  clear c2
  by_cases c3 : ((l0.length : Int) : Int).toNat ≤ 2932031007402
  ·rw [if_pos c3] at H
   have c3b0 := eq_true c3
   have c3b1 : decide (((l0.length : Int) : Int).toNat ≤ 2932031007402) = true := decide_eq_true c3
   clear c3
   obtain ⟨y324, hy324⟩ : ∃ y_ : List (S59), y_ = (List.replicate ((l0.length : Int) : Int).toNat z59) := ⟨_, rfl⟩
   rw [← hy324] at H
   try with_reducible replace H := bs H
   have Ny324 := Aside0.mk hy324
   clear hy324
   have H' := Aside0.mk H
   clear H
   go_enter Tryz.func18, Tryz.ntmps18
   go_wp2_with (first | ((with_reducible refine gate_dst (N := 7) rfl ?_); refine Kd.S_make k59 _ 59 rfl (N := 7) rfl 32 _ _ rfl (l0.length : Int) rfl rfl Tryz.underlying32 (.agg #[(.int .i64 0), (.slice none 0 0), (.slice none 0 0), (.int .u32 0), (.int .i64 0), (.int .i64 0), (.int .i64 0), (.int .u32 0)]) 96 info59 rfl (by decide) (by omega) z59 (ok := fun _ => True) (okp := fun _ => True) (k59_mkM _ _ _ z59 (Kd.R_nil _ _ _ _ _) (Kd.R_nil _ _ _ _ _)) (fun _ hk => hk) trivial (of_decide_eq_true as_) (Nat.le_trans (Nat.mul_le_mul_right _ (of_decide_eq_true as_ : (l0.length : Int).toNat ≤ 2932031007402)) (by omega)) (Below.refl _ _) (Nat.le_refl _) ?_; intro v325 w4 ho5 hb hg_ hnew_; clear hg_ hnew_; (first | rw [← Ny324.out] at ho5 | (simp only [Int.reduceToNat] at ho5; rw [← Ny324.out] at ho5)); have HO326 := Aside0.mk (Kd.S_lower ho5 (below_size bw)); replace HB := hs hb; clear hb ho5))
   go_loopg [4] k (fun kq v4 w' => ∃ (x3_1 : List (S59)) (x4_1 : Int), v4 = .int .i64 x4_1 ∧ Aside0 (laws_toWarpS.l0 kq l0 x3_1 x4_1 = some r) ∧ Aside0 (kq ≤ k) ∧ Aside0 (Kd.S k59 59 w' w.heap.size (fun _ => True) v325 x3_1) ∧ Aside0 (Below w.heap.size w w'))
   case atStart => exact ⟨(y324), (0), ev, H', ⟨Nat.le_refl _⟩, ⟨by (with_reducible repeat (first | apply Kd.S_alloc | apply Kd.S_drewN | apply Kd.S_drew)); exact HO326.out⟩, ⟨bw⟩⟩
   case round =>
    clear H'
    try clear c2
    try clear c2b0
    try clear c2b1
    try clear c3
    try clear c3b0
    try clear c3b1
    obtain ⟨x3_1, x4_1, rfl, HA, HK1, HO_3, HB⟩ := hrel
    cases gk with
    | zero => exact absurd HA.out (by simp [laws_toWarpS.l0])
    | succ k1 =>
     have H := HA.out
     clear HA
     simp only [laws_toWarpS.l0] at H
     replace H := ilt H
     rcases H with ⟨c6b0, H⟩ | ⟨c6b0, H⟩
     ·by_cases c7 : 0 ≤ x4_1
      ·rw [if_pos c7] at H
       have c7b0 : decide (0 ≤ x4_1) = true := decide_eq_true c7
       clear c7
       replace H := bn H
       obtain ⟨⟨t328, t329, t332, t335, t336, t337, t338, t339⟩, A8, H⟩ := H
       try dsimp only at H
       by_cases c9 : x4_1 < (x3_1.length : Int)
       ·rw [if_pos c9] at H
        have c9b0 : decide (x4_1 < (x3_1.length : Int)) = true := decide_eq_true c9
        clear c9
        obtain ⟨y340, hy340⟩ : ∃ y_ : List (S59), y_ = (x3_1.set (x4_1 : Int).toNat (⟨t328, t329, t332, t335, t336, t337, t338, t339⟩ : S59)) := ⟨_, rfl⟩
        rw [← hy340] at H
        try with_reducible replace H := bs H
        have Ny340 := Aside0.mk hy340
        clear hy340
        have H' := Aside0.mk H
        clear H
        have p327 : 0 ≤ (x4_1 : Int) := of_decide_eq_true as_
        have q327 : x4_1 < (l0.length : Int) := of_decide_eq_true as_
        obtain ⟨ad327, A327_1, c327_1, A327_2, c327_2, e327, hx327_0, hx327_1, hx327_2, hx327_3, hx327_4, hx327_5, hx327_6, hx327_7, hl327_1, hi327_1, hl327_2, hi327_2⟩ := at_T56 HR0.out x4_1 p327 q327
        cases e327
        replace hx327_0 := cl HB hx327_0
        replace hx327_1 := cl HB hx327_1
        replace hx327_2 := cl HB hx327_2
        replace hx327_3 := cl HB hx327_3
        replace hx327_4 := cl HB hx327_4
        replace hx327_5 := cl HB hx327_5
        replace hx327_6 := cl HB hx327_6
        replace hx327_7 := cl HB hx327_7
        have HR327_1 := Aside0.mk hi327_1
        have HC327_1 := Aside0.mk hl327_1
        clear hi327_1 hl327_1
        have HR327_2 := Aside0.mk hi327_2
        have HC327_2 := Aside0.mk hl327_2
        clear hi327_2 hl327_2
        replace p327 := eq_true p327
        replace q327 := eq_true q327
        go_wp2_with (first | ((with_reducible refine gf 30 ?_); refine gc Tryz.func30 (some 20) (laws_toWarp.calls _ _ A327_1 c327_1 _ A327_2 c327_2 _ _ _ _ _ _ _ _ _ _ _ _ _ _ _ (cb HR327_1) HC327_1.out (cb HR327_2) HC327_2.out A8.out) ?_; rintro e w11 ⟨v330, v333, rfl, ho0, ho1, hb⟩; refine ⟨_, rfl, ?_⟩; replace HO_3 := Aside0.mk (Kd.S_mono (Kd.S_told (Kd.S_told (Kd.S_old (by (with_reducible repeat (first | apply Kd.S_alloc | apply Kd.S_drewN | apply Kd.S_drew)); exact HO_3.out) hb) (Kd.R_base ho0)) (Kd.R_base ho1)) (fun _ h_ => h_.1)); have HO331 := Aside0.mk (Kd.R_lower ho0 (below_size bw)); have HO334 := Aside0.mk (Kd.R_lower ho1 (below_size bw)); replace HB := hs hb; try clear hb; (try clear ho0); (try clear ho1); have p10 : 0 ≤ (x4_1 : Int) := of_decide_eq_true as_; have q10 : (x4_1 : Int) < ((x3_1.length : Int) : Int) := of_decide_eq_true as_; obtain ⟨go10, co10, eo10, gb10, gl10, cl10, HG10⟩ := Kd.S_form HO_3.out (by omega); (first | cases eo10 | (injection eo10 with ea_ en_ ec_; (first | subst ea_ | (injection ea_ with ea_; subst ea_)); subst ec_; clear en_)); have GB10 := Aside0.mk gb10; have GG10 := Aside0.mk HG10; clear gb10 gl10 HG10; obtain ⟨_, ce10, hcl10, hM10, hcc10, hfr10, _, _⟩ := Kd.S_elem HO_3.out z59 (x4_1 : Int) p10 q10; obtain ⟨ve10_1, ve10_2, rfl, ge10_1, ge10_2⟩ := k59_openM hM10; have hx10_0 : w11.cell? ⟨go10, (x4_1 : Int).toNat * 8, none⟩ = some (.int .i64 ((rd_T59 x3_1 x4_1).f0)) := hcc10 0 _ rfl; have hx10_1 : w11.cell? ⟨go10, (x4_1 : Int).toNat * 8 + 1, none⟩ = some (ve10_1) := hcc10 1 _ rfl; have hx10_2 : w11.cell? ⟨go10, (x4_1 : Int).toNat * 8 + 2, none⟩ = some (ve10_2) := hcc10 2 _ rfl; have hx10_3 : w11.cell? ⟨go10, (x4_1 : Int).toNat * 8 + 3, none⟩ = some (.int .u32 ((rd_T59 x3_1 x4_1).f3)) := hcc10 3 _ rfl; have hx10_4 : w11.cell? ⟨go10, (x4_1 : Int).toNat * 8 + 4, none⟩ = some (.int .i64 ((rd_T59 x3_1 x4_1).f4)) := hcc10 4 _ rfl; have hx10_5 : w11.cell? ⟨go10, (x4_1 : Int).toNat * 8 + 5, none⟩ = some (.int .i64 ((rd_T59 x3_1 x4_1).f5)) := hcc10 5 _ rfl; have hx10_6 : w11.cell? ⟨go10, (x4_1 : Int).toNat * 8 + 6, none⟩ = some (.int .i64 ((rd_T59 x3_1 x4_1).f6)) := hcc10 6 _ rfl; have hx10_7 : w11.cell? ⟨go10, (x4_1 : Int).toNat * 8 + 7, none⟩ = some (.int .u32 ((rd_T59 x3_1 x4_1).f7)) := hcc10 7 _ rfl; have hf10_0 : w11.frozen? ⟨go10, (x4_1 : Int).toNat * 8, none⟩ = false := hfr10 0; have hf10_1 : w11.frozen? ⟨go10, (x4_1 : Int).toNat * 8 + 1, none⟩ = false := hfr10 1; have hf10_2 : w11.frozen? ⟨go10, (x4_1 : Int).toNat * 8 + 2, none⟩ = false := hfr10 2; have hf10_3 : w11.frozen? ⟨go10, (x4_1 : Int).toNat * 8 + 3, none⟩ = false := hfr10 3; have hf10_4 : w11.frozen? ⟨go10, (x4_1 : Int).toNat * 8 + 4, none⟩ = false := hfr10 4; have hf10_5 : w11.frozen? ⟨go10, (x4_1 : Int).toNat * 8 + 5, none⟩ = false := hfr10 5; have hf10_6 : w11.frozen? ⟨go10, (x4_1 : Int).toNat * 8 + 6, none⟩ = false := hfr10 6; have hf10_7 : w11.frozen? ⟨go10, (x4_1 : Int).toNat * 8 + 7, none⟩ = false := hfr10 7; clear hcl10 hcc10 hfr10 hM10; replace p10 := eq_true p10; replace q10 := eq_true q10; have n_ := Aside0.mk (Kd.S_mono (ok' := (fun k_ => some k_ ≠ (v330 : Value).ownBlock ∧ some k_ ≠ (v333 : Value).ownBlock)) HO_3.out (fun k_ hk => ⟨hk.1.2, hk.2⟩)); clear HO_3; have HO_3 := n_; clear n_; have HX12 := Aside0.mk (show Kd.S k59 59 w11 w.heap.size (fun k_ => ((fun _ => True)) k_ ∧ ¬ ((fun k_ => some k_ = (v330 : Value).ownBlock ∨ some k_ = (v333 : Value).ownBlock)) k_) (.slice (some ⟨go10, 0, none⟩) x3_1.length co10) x3_1 from (by (with_reducible repeat (first | apply Kd.S_alloc | apply Kd.S_drewN | apply Kd.S_drew)); exact Kd.S_mono HO_3.out (fun k_ hk => ⟨trivial, fun e_ => e_.elim (fun h_ => hk.1 h_) (fun h_ => hk.2 h_)⟩))); obtain ⟨oki12, ce12, hcl12, hM12, hcc12, hfr12, hoki12, hH12⟩ := Kd.S_elem HX12.out z59 (x4_1 : Int) (of_decide_eq_true as_) (by have h_ : (x4_1 : Int) < ((x3_1.length : Int) : Int) := of_decide_eq_true as_; first | exact h_ | (have e_ := (Kd.S_reads' HO_3.out).1; omega) | simpa using h_); obtain ⟨ve12_1, ve12_2, rfl, ge12_1, ge12_2⟩ := k59_openM hM12; have HP12 := Kd.S_seg hH12 (of_decide_eq_true as_) (by have h_ : (x4_1 : Int) < ((x3_1.length : Int) : Int) := of_decide_eq_true as_; first | exact h_ | (have e_ := (Kd.S_reads' HO_3.out).1; omega) | simpa using h_) (seg := [.int .i64 t328, v330, v333, .int .u32 t335, .int .i64 t336, .int .i64 t337, .int .i64 t338, .int .u32 t339]) (j := 0) (show 8 ≤ 8 from by decide) (x' := (⟨t328, t329, t332, t335, t336, t337, t338, t339⟩ : S59)) (k59_mkM _ _ _ (⟨t328, t329, t332, t335, t336, t337, t338, t339⟩ : S59) (Kd.R_mono (Kd.R_tight rfl (Kd.R_mono (ok' := fun k_ => ((fun _ => True)) k_ ∧ k_ ≠ go10) (Kd.R_apart' (HO331.out) (Kd.S_typed HO_3.out) (by decide)) (fun k_ hk => ⟨trivial, fun e_ => (hk.2) (by rw [e_]; rfl)⟩))) (fun _ h_ => Or.inr (Or.inl h_))) (Kd.R_mono (Kd.R_tight rfl (Kd.R_mono (ok' := fun k_ => ((fun _ => True)) k_ ∧ k_ ≠ go10) (Kd.R_apart' (HO334.out) (Kd.S_typed HO_3.out) (by decide)) (fun k_ hk => ⟨trivial, fun e_ => (hk.2) (by rw [e_]; rfl)⟩))) (fun _ h_ => Or.inr (Or.inr (h_))))) (fun _ hk => hk) (fun k_ hk_ => hk_.elim (fun h_ => ((Kd.R_mono (ok' := fun k_ => ((fun _ => True)) k_ ∧ k_ ≠ go10) (Kd.R_apart' (HO331.out) (Kd.S_typed HO_3.out) (by decide)) (fun k_ hk => ⟨trivial, fun e_ => (hk.2) (by rw [e_]; rfl)⟩))).1 k_ h_.symm) (fun h_ => ((Kd.R_mono (ok' := fun k_ => ((fun _ => True)) k_ ∧ k_ ≠ go10) (Kd.R_apart' (HO334.out) (Kd.S_typed HO_3.out) (by decide)) (fun k_ hk => ⟨trivial, fun e_ => (hk.2) (by rw [e_]; rfl)⟩))).1 k_ h_.symm)); have hx12_0 := hcc12 0 _ rfl; (try simp only [show (k59).sz = 8 from rfl, Nat.mul_one, Nat.add_zero] at hx12_0); have hf12_0 := hfr12 0; (try simp only [show (k59).sz = 8 from rfl, Nat.mul_one, Nat.add_zero] at hf12_0); have hx12_1 := hcc12 1 _ rfl; (try simp only [show (k59).sz = 8 from rfl, Nat.mul_one, Nat.add_zero] at hx12_1); have hf12_1 := hfr12 1; (try simp only [show (k59).sz = 8 from rfl, Nat.mul_one, Nat.add_zero] at hf12_1); have hx12_2 := hcc12 2 _ rfl; (try simp only [show (k59).sz = 8 from rfl, Nat.mul_one, Nat.add_zero] at hx12_2); have hf12_2 := hfr12 2; (try simp only [show (k59).sz = 8 from rfl, Nat.mul_one, Nat.add_zero] at hf12_2); have hx12_3 := hcc12 3 _ rfl; (try simp only [show (k59).sz = 8 from rfl, Nat.mul_one, Nat.add_zero] at hx12_3); have hf12_3 := hfr12 3; (try simp only [show (k59).sz = 8 from rfl, Nat.mul_one, Nat.add_zero] at hf12_3); have hx12_4 := hcc12 4 _ rfl; (try simp only [show (k59).sz = 8 from rfl, Nat.mul_one, Nat.add_zero] at hx12_4); have hf12_4 := hfr12 4; (try simp only [show (k59).sz = 8 from rfl, Nat.mul_one, Nat.add_zero] at hf12_4); have hx12_5 := hcc12 5 _ rfl; (try simp only [show (k59).sz = 8 from rfl, Nat.mul_one, Nat.add_zero] at hx12_5); have hf12_5 := hfr12 5; (try simp only [show (k59).sz = 8 from rfl, Nat.mul_one, Nat.add_zero] at hf12_5); have hx12_6 := hcc12 6 _ rfl; (try simp only [show (k59).sz = 8 from rfl, Nat.mul_one, Nat.add_zero] at hx12_6); have hf12_6 := hfr12 6; (try simp only [show (k59).sz = 8 from rfl, Nat.mul_one, Nat.add_zero] at hf12_6); have hx12_7 := hcc12 7 _ rfl; (try simp only [show (k59).sz = 8 from rfl, Nat.mul_one, Nat.add_zero] at hx12_7); have hf12_7 := hfr12 7; (try simp only [show (k59).sz = 8 from rfl, Nat.mul_one, Nat.add_zero] at hf12_7); clear hcl12 hcc12 hfr12 hM12 hoki12 hH12) | ((with_reducible refine gate_store (t := 59) (p := 21) rfl ?_); refine store_event (t := 59) (p := 21) (v := ?vo_w13) (w1 := ((((((((w11.setCell ⟨go10, (x4_1 : Int).toNat * 8, none⟩ (.int .i64 t328)).setCell ⟨go10, (x4_1 : Int).toNat * 8 + 1, none⟩ (v330)).setCell ⟨go10, (x4_1 : Int).toNat * 8 + 2, none⟩ (v333)).setCell ⟨go10, (x4_1 : Int).toNat * 8 + 3, none⟩ (.int .u32 t335)).setCell ⟨go10, (x4_1 : Int).toNat * 8 + 4, none⟩ (.int .i64 t336)).setCell ⟨go10, (x4_1 : Int).toNat * 8 + 5, none⟩ (.int .i64 t337)).setCell ⟨go10, (x4_1 : Int).toNat * 8 + 6, none⟩ (.int .i64 t338)).setCell ⟨go10, (x4_1 : Int).toNat * 8 + 7, none⟩ (.int .u32 t339))) ?hg ?ho ?hn ?hr ?_; (case ho => rfl); (case hg => rfl); (case hn => rfl); (case hr => first | (go_simp; done) | (go_simp; rfl) | (obtain ⟨_, _, e330_⟩ := Kd.R_slice HO331.out; subst e330_; obtain ⟨_, _, e333_⟩ := Kd.R_slice HO334.out; subst e333_; first | (go_simp; done) | (go_simp; rfl))); intro w13 hw; have hg : w11.grownBy w13 (some go10) := (by rw [hw]; exact HP12.2); have hp_ : Kd.S k59 59 w13 w.heap.size (fun _ => True) (.slice (some ⟨go10, 0, none⟩) x3_1.length co10) y340 := (by rw [hw, Ny340.out]; exact HP12.1); clear HP12; replace HO_3 := Aside0.mk (hp_); replace HB := Aside0.mk ((by rw [hw]; exact below_set (below_set (below_set (below_set (below_set (below_set (below_set (below_set (HB.out) GB10.out) GB10.out) GB10.out) GB10.out) GB10.out) GB10.out) GB10.out) GB10.out : Below w.heap.size w w13)); clear HO331 HO334; clear hg hw hp_))
        go_roundg k1
        case measure => have := HK1.out; omega
        case rel => exact ⟨(y340), (wrap64 (x4_1 + 1)), ev, H', ⟨oa HK1⟩, ⟨by (with_reducible repeat (first | apply Kd.S_alloc | apply Kd.S_drewN | apply Kd.S_drew)); exact HO_3.out⟩, ⟨bw⟩⟩
       ·rw [if_neg c9] at H
        exact absurd H (by simp)
      ·rw [if_neg c7] at H
       exact absurd H (by simp)
     ·obtain rfl := Option.some.inj H
      go_wp2
      go_ret
      exact ⟨_, rt, by (with_reducible repeat (first | apply Kd.S_alloc | apply Kd.S_drewN | apply Kd.S_drew)); exact HO_3.out, bw⟩
  ·rw [if_neg c3] at H
   exact absurd H (by simp)
 ·rw [if_neg c2] at H
  exact absurd H (by simp)

/-! ### laws_toMach: function 6 -/
def laws_toMach.f (k : Nat) (l0_0 : List Int) (l0_1 : List (S56)) : Option (List Int × (List (S59))) := (laws_toMem.f k l0_0).bind fun t344 => ((laws_toWarpS.f k l0_1).bind fun t347 => (some (t344, t347)))
theorem laws_toMach.mono : ∀ a0 a1 k, LeO (laws_toMach.f k a0 a1) (laws_toMach.f (k + 1) a0 a1) := by
 intro a0 a1 k
 unfold laws_toMach.f
 repeat' first
  | (with_reducible first | exact laws_toMem.mono .. | exact laws_toWarpS.mono .. | exact LeO.refl _ | exact LeO.none _ | refine LeO.ite ?_ ?_ | refine LeO.bind ?_ (fun _ => ?_))
  | exact LeO.none _ | refine LeO.ite ?_ ?_ | refine LeO.bind ?_ (fun _ => ?_)
set_option maxHeartbeats 8000000 in
set_option maxRecDepth 100000 in
theorem laws_toMach.calls (k : Nat) (A0_0 : Option Addr) (c0_0 : Nat) (l0_0 : List Int) (A0_1 : Option Addr) (c0_1 : Nat) (l0_1 : List (S56)) (r1 : List Int) (r2 : List (S59)) (w : World) (hr0_0 : Kd.C (Kd.int .u32) w A0_0 l0_0.length l0_0) (hc0_0 : l0_0.length ≤ c0_0) (hr0_1 : Kd.C k56 w A0_1 l0_1.length l0_1) (hc0_1 : l0_1.length ≤ c0_1) (h : laws_toMach.f k l0_0 l0_1 = some (r1, r2)) :
  Calls Tryz.prog 6 #[.agg #[.slice A0_0 l0_0.length c0_0, .slice A0_1 l0_1.length c0_1]] w fun e w' => ∃ v0_ v1_ : Value, e = .returned (.agg #[v0_, v1_]) ∧ Kd.R (Kd.int .u32) 54 w' w.heap.size (fun _ => True) v0_ r1 ∧ Kd.S k59 59 w' w.heap.size (fun _ => True) v1_ r2 ∧ Below w.heap.size w w' := by
 have hu27 := Tryz.underlying27
 have hu34 := Tryz.underlying34
 have hu24 := Tryz.underlying24
 have hu31 := Tryz.underlying31
 have HR0_0 := Aside0.mk hr0_0
 have HC0_0 := Aside0.mk hc0_0
 clear hr0_0 hc0_0
 have HR0_1 := Aside0.mk hr0_1
 have HC0_1 := Aside0.mk hc0_1
 clear hr0_1 hc0_1
 have HB := Aside0.mk (Below.refl w.heap.size w)
 unfold laws_toMach.f at h
 have H := h
 clear h
 replace H := bn H
 obtain ⟨t344, A2, H⟩ := H
 try dsimp only at H
 replace H := bn H
 obtain ⟨t347, A3, H⟩ := H
 try dsimp only at H
 simp only [Option.some.injEq, Prod.mk.injEq] at H
 obtain ⟨rfl, rfl⟩ := H
 go_enter Tryz.func6, Tryz.ntmps6
 go_wp2_with (first | ((with_reducible refine gd 1 ?_); refine bx 1 27 #[.slice A0_0 l0_0.length c0_0, .slice A0_1 l0_1.length c0_1] ?_; clear HB; intro gb341 w4 hg BK341 hb GE341 HB; clear hb hg) | ((with_reducible refine gd 2 ?_); refine bx 2 34 #[.slice none 0 0, .slice none 0 0] ?_; clear HB; intro gb342 w5 hg BK342 hb GE342 HB; have NB341_342 := nl BK341 hg; have NB342_341 := ng BK341 hg; replace BK341 := b_ BK341 hb; clear hb hg) | ((with_reducible refine gd 3 ?_); refine bx 3 34 #[.slice none 0 0, .slice none 0 0] ?_; clear HB; intro gb343 w6 hg BK343 hb GE343 HB; have NB341_343 := nl BK341 hg; have NB343_341 := ng BK341 hg; replace BK341 := b_ BK341 hb; have NB342_343 := nl BK342 hg; have NB343_342 := ng BK342 hg; replace BK342 := b_ BK342 hb; clear hb hg; have hnb7 := NB341_342.out; have hnc7 := NB342_341.out; have hnb8 := NB341_343.out; have hnc8 := NB343_341.out; obtain ⟨z9_0, z9_1⟩ := ca2 BK341; obtain ⟨f9_0, f9_1⟩ := fa2 BK341) | ((with_reducible refine gf 17 ?_); refine gc Tryz.func17 (some 6) (laws_toMem.calls _ A0_0 c0_0 _ _ _ (cb HR0_0) HC0_0.out A2.out) ?_; rintro e w10 ⟨v345, rfl, ho0, hb⟩; refine ⟨_, rfl, ?_⟩; have HO346 := Aside0.mk (Kd.R_lower ho0 (below_size bw)); replace BK341 := b_ BK341 hb; replace BK342 := b_ BK342 hb; replace BK343 := b_ BK343 hb; replace HB := hs hb; try clear hb; (try clear ho0); obtain ⟨Ao11, co11, eo11⟩ := Kd.R_slice HO346.out; subst eo11; have hnb12 := NB343_342.out; have hnc12 := NB342_343.out; obtain ⟨z13_0, z13_1⟩ := ca2 BK343; obtain ⟨f13_0, f13_1⟩ := fa2 BK343; obtain ⟨z14_0, z14_1⟩ := ca2 BK341; obtain ⟨f14_0, f14_1⟩ := fa2 BK341) | ((with_reducible refine gf 18 ?_); refine gc Tryz.func18 (some 10) (laws_toWarpS.calls _ A0_1 c0_1 _ _ _ (Kd.C_below HR0_1.out bw) HC0_1.out A3.out) ?_; rintro e w15 ⟨v348, rfl, ho0, hb⟩; refine ⟨_, rfl, ?_⟩; replace HO346 := Aside0.mk (Kd.R_below (rx HO346 BK343) hb); have HO349 := Aside0.mk (Kd.S_lower ho0 (below_size bw)); replace BK341 := b_ BK341 hb; replace BK342 := b_ BK342 hb; replace BK343 := bq BK343 #[.slice Ao11 t344.length co11, .slice none 0 0] hb; replace HB := hs hb; try clear hb; (try clear ho0); obtain ⟨Ao16, co16, eo16⟩ := Kd.S_slice HO349.out; subst eo16; obtain ⟨z17_0, z17_1⟩ := ca2 BK343; obtain ⟨f17_0, f17_1⟩ := fa2 BK343; obtain ⟨z18_0, z18_1⟩ := ca2 BK342; obtain ⟨f18_0, f18_1⟩ := fa2 BK342))
 refine bodyPost_ret (results_cell_row rfl _ _ gb342 34 #[.slice Ao11 t344.length co11, .slice Ao16 t347.length co16] (0, 0) _ rfl (bp BK342) Tryz.underlying34 rfl kr) rfl ?_
 exact ⟨_, _, rt, by (with_reducible repeat (first | apply Kd.R_alloc | apply Kd.R_drewN | apply Kd.R_drew)); exact Kd.R_mono (Kd.R_far (p := ⟨gb342, 1, none⟩) (Kd.R_far (p := ⟨gb342, 0, none⟩) (Kd.R_far (p := ⟨gb343, 1, none⟩) (Kd.R_types (Kd.R_types HO346.out BK343.out (by decide)) BK342.out (by decide)) (fun _ hk => hk.1.2) (.slice Ao16 t347.length co16)) (fun _ hk => hk.2) (.slice Ao11 t344.length co11)) (fun _ hk => hk.2) (.slice Ao16 t347.length co16)) (fun _ hk => trivial), by (with_reducible repeat (first | apply Kd.S_alloc | apply Kd.S_drewN | apply Kd.S_drew)); exact Kd.S_mono (Kd.S_far (p := ⟨gb342, 1, none⟩) (Kd.S_far (p := ⟨gb342, 0, none⟩) (Kd.S_far (p := ⟨gb343, 1, none⟩) (Kd.S_types (Kd.S_types HO349.out BK343.out (by decide)) BK342.out (by decide)) (fun _ hk => hk.1.2) (.slice Ao16 t347.length co16)) (fun _ hk => hk.2) (.slice Ao11 t344.length co11)) (fun _ hk => hk.2) (.slice Ao16 t347.length co16)) (fun _ hk => trivial), bw⟩

/-! ### impl_within: function 32 -/
def impl_within.f (a0 : Int) (a1 : Int) (a2 : Int) : Option (Bool) := if a0 ≥ a1 then (some (decide (a0 ≤ a2))) else (some false)
set_option maxHeartbeats 8000000 in
set_option maxRecDepth 100000 in
theorem impl_within.calls (a0 : Int) (a1 : Int) (a2 : Int) (r : Bool) (w : World) (h : impl_within.f a0 a1 a2 = some r) :
  Calls Tryz.prog 32 #[.int .i64 a0, .int .i64 a1, .int .i64 a2] w fun e w' => e = .returned (.bool r) ∧ Drawn0 w w' := by
 unfold impl_within.f at h
 have H := h
 clear h
 replace H := ige H
 rcases H with ⟨c4b0, H⟩ | ⟨c4b0, H⟩
 ·obtain rfl := Option.some.inj H
  go_enter Tryz.func32, Tryz.ntmps32
  go_wp2
  go_ret
  exact ⟨ev, dr⟩
 ·obtain rfl := Option.some.inj H
  go_enter Tryz.func32, Tryz.ntmps32
  go_wp2
  go_ret
  exact ⟨ev, dr⟩

/-! ### bits_Mul64: function 86 -/
def bits_Mul64.f (a0 : Int) (a1 : Int) : Option (Int × Int) := some (IntKind.u64.wrap ((IntKind.u64.wrap ((IntKind.u64.wrap ((a0 / 4294967296) * (a1 / 4294967296))) + ((IntKind.u64.wrap ((IntKind.u64.wrap ((a0 / 4294967296) * (Go.bits .and .u64 a1 4294967295))) + ((IntKind.u64.wrap ((Go.bits .and .u64 a0 4294967295) * (Go.bits .and .u64 a1 4294967295))) / 4294967296))) / 4294967296))) + ((IntKind.u64.wrap ((Go.bits .and .u64 (IntKind.u64.wrap ((IntKind.u64.wrap ((a0 / 4294967296) * (Go.bits .and .u64 a1 4294967295))) + ((IntKind.u64.wrap ((Go.bits .and .u64 a0 4294967295) * (Go.bits .and .u64 a1 4294967295))) / 4294967296))) 4294967295) + (IntKind.u64.wrap ((Go.bits .and .u64 a0 4294967295) * (a1 / 4294967296))))) / 4294967296)), IntKind.u64.wrap (a0 * a1))
set_option maxHeartbeats 8000000 in
set_option maxRecDepth 100000 in
theorem bits_Mul64.calls (a0 : Int) (a1 : Int) (r1 : Int) (r2 : Int) (w : World) (h : bits_Mul64.f a0 a1 = some (r1, r2)) :
  Calls Tryz.prog 86 #[.int .u64 a0, .int .u64 a1] w fun e w' => e = .returned (.tuple #[.int .u64 r1, .int .u64 r2]) ∧ Drawn0 w w' := by
 unfold bits_Mul64.f at h
 have H := h
 clear h
 simp only [Option.some.injEq, Prod.mk.injEq] at H
 obtain ⟨rfl, rfl⟩ := H
 go_enter Tryz.func86, Tryz.ntmps86
 go_wp2
 go_ret2
 exact ⟨ev, dr⟩

/-! ### bits_Mul: function 66 -/
def bits_Mul.f (a0 : Int) (a1 : Int) : Option (Int × Int) := (bits_Mul64.f a0 a1).bind fun bt350 => (some (bt350.1, bt350.2))
set_option maxHeartbeats 8000000 in
set_option maxRecDepth 100000 in
theorem bits_Mul.calls (a0 : Int) (a1 : Int) (r1 : Int) (r2 : Int) (w : World) (h : bits_Mul.f a0 a1 = some (r1, r2)) :
  Calls Tryz.prog 66 #[.int .u64 a0, .int .u64 a1] w fun e w' => e = .returned (.tuple #[.int .u64 r1, .int .u64 r2]) ∧ Drawn0 w w' := by
 unfold bits_Mul.f at h
 have H := h
 clear h
 replace H := bn H
 obtain ⟨⟨t350, t351⟩, A3, H⟩ := H
 try dsimp only at H
 simp only [Option.some.injEq, Prod.mk.injEq] at H
 obtain ⟨rfl, rfl⟩ := H
 go_enter Tryz.func66, Tryz.ntmps66
 go_wp2_with (first | ((with_reducible refine gf 86 ?_); refine gc Tryz.func86 (some 25) (bits_Mul64.calls _ _ _ _ _ A3.out) ?_; rintro e w' ⟨rfl, ⟨nd, rfl⟩⟩; refine ⟨_, rfl, ?_⟩))
 go_ret2
 exact ⟨ev, dr⟩

/-! ### impl_packed: function 67 -/
def impl_packed.f (a0_0 : Int) (a0_1 : Int) (a0_2 : Int) (a0_3 : Int) : Option (Int) := some (Go.bits .or .u32 (Go.bits .or .u32 (Go.bits .or .u32 a0_2 ((((a0_1) % 4294967296) * 65536) % 4294967296)) ((((a0_0) % 4294967296) * 1048576) % 4294967296)) ((((a0_3) % 4294967296) * 16777216) % 4294967296))
set_option maxHeartbeats 8000000 in
set_option maxRecDepth 100000 in
theorem impl_packed.calls (a0_0 : Int) (a0_1 : Int) (a0_2 : Int) (a0_3 : Int) (r : Int) (w : World) (h : impl_packed.f a0_0 a0_1 a0_2 a0_3 = some r) :
  Calls Tryz.prog 67 #[.agg #[.int .i64 a0_0, .int .i64 a0_1, .int .u32 a0_2, .int .i64 a0_3]] w fun e w' => e = .returned (.int .u32 r) ∧ Below w.heap.size w w' := by
 have hu61 := Tryz.underlying61
 have HB := Aside0.mk (Below.refl w.heap.size w)
 unfold impl_packed.f at h
 have H := h
 clear h
 obtain rfl := Option.some.inj H
 go_enter Tryz.func67, Tryz.ntmps67
 go_wp2_with (first | ((with_reducible refine gd 1 ?_); refine bx 1 61 #[.int .i64 a0_0, .int .i64 a0_1, .int .u32 a0_2, .int .i64 a0_3] ?_; clear HB; intro gb352 w2 hg BK352 hb GE352 HB; clear hb hg; obtain ⟨z3_0, z3_1, z3_2, z3_3⟩ := ca4 BK352; obtain ⟨f3_0, f3_1, f3_2, f3_3⟩ := fa4 BK352))
 go_ret
 exact ⟨rt, bw⟩

/-! ### impl_HeldWord: function 38 -/
def impl_HeldWord.f  : Option (Int) := (impl_packed.f 3 0 0 0).bind fun t353 => (some t353)
set_option maxHeartbeats 8000000 in
set_option maxRecDepth 100000 in
theorem impl_HeldWord.calls  (r : Int) (w : World) (h : impl_HeldWord.f  = some r) :
  Calls Tryz.prog 38 #[] w fun e w' => e = .returned (.int .u32 r) ∧ Below w.heap.size w w' := by
 have hu61 := Tryz.underlying61
 have HB := Aside0.mk (Below.refl w.heap.size w)
 unfold impl_HeldWord.f at h
 have H := h
 clear h
 replace H := bn H
 obtain ⟨t353, A1, H⟩ := H
 try dsimp only at H
 obtain rfl := Option.some.inj H
 go_enter Tryz.func38, Tryz.ntmps38
 go_wp2_with (first | ((with_reducible refine gf 67 ?_); refine gc Tryz.func67 (some 2) (impl_packed.calls _ _ _ _ _ _ A1.out) ?_; rintro e w2 ⟨rfl, hb⟩; refine ⟨_, rfl, ?_⟩; replace HB := hs hb; try clear hb))
 go_ret
 exact ⟨rt, bw⟩

/-! ### impl_isClass: function 87 -/
def impl_isClass.f (a0 : Int) : Option (Bool) := (impl_within.f a0 0 4).bind fun t354 => (some t354)
set_option maxHeartbeats 8000000 in
set_option maxRecDepth 100000 in
theorem impl_isClass.calls (a0 : Int) (r : Bool) (w : World) (h : impl_isClass.f a0 = some r) :
  Calls Tryz.prog 87 #[.int .i64 a0] w fun e w' => e = .returned (.bool r) ∧ Drawn0 w w' := by
 unfold impl_isClass.f at h
 have H := h
 clear h
 replace H := bn H
 obtain ⟨t354, A2, H⟩ := H
 try dsimp only at H
 obtain rfl := Option.some.inj H
 go_enter Tryz.func87, Tryz.ntmps87
 go_wp2_with (first | ((with_reducible refine gf 32 ?_); refine gc Tryz.func32 (some 4) (impl_within.calls _ _ _ _ _ A2.out) ?_; rintro e w' ⟨rfl, ⟨nd, rfl⟩⟩; refine ⟨_, rfl, ?_⟩))
 go_ret
 exact ⟨ev, dr⟩

/-! ### impl_PerPage: function 88 -/
def impl_PerPage.f (a0 : Int) : Option (Int) := (impl_isClass.f a0).bind fun t355 => (if t355 = true then (if 0 ≤ a0 then (some (shr .i64 16 a0)) else (none)) else (some 0))
set_option maxHeartbeats 8000000 in
set_option maxRecDepth 100000 in
theorem impl_PerPage.calls (a0 : Int) (r : Int) (w : World) (h : impl_PerPage.f a0 = some r) :
  Calls Tryz.prog 88 #[.int .i64 a0] w fun e w' => e = .returned (.int .i64 r) ∧ Drawn0 w w' := by
 unfold impl_PerPage.f at h
 have H := h
 clear h
 replace H := bn H
 obtain ⟨t355, A2, H⟩ := H
 try dsimp only at H
 have HU3 := Aside0.mk H
 clear H
 go_enter Tryz.func88, Tryz.ntmps88
 go_upto_if 5 with (first | ((with_reducible refine gf 87 ?_); refine gc Tryz.func87 (some 4) (impl_isClass.calls _ _ _ A2.out) ?_; rintro e w' ⟨rfl, ⟨nd, rfl⟩⟩; refine ⟨_, rfl, ?_⟩))
 (try refine ap ?_)
 have H := HU3.out
 clear HU3
 replace H := ib H
 rcases H with ⟨rfl, H⟩ | ⟨rfl, H⟩
 ·(try simp only [Bool.not_true, Bool.not_false])
  by_cases c5 : 0 ≤ a0
  ·rw [if_pos c5] at H
   have c5b0 := eq_true c5
   have c5b1 : decide (0 ≤ a0) = true := decide_eq_true c5
   clear c5
   obtain ⟨ji6, hji6⟩ : ∃ j_ : Int, (shr .i64 16 a0) = j_ := ⟨_, rfl⟩
   first | rw [hji6] at H | simp only [hji6] at H
   have hji6_ : (16 / 2 ^ min a0.toNat 64) = ji6 := hji6
   have hji6z : a0 ≤ 64 → (16 / 2 ^ a0.toNat) = ji6 := shr_small hji6
   obtain rfl := Option.some.inj H
   go_wp2
   go_ret
   exact ⟨by first | rfl | (simp; done) | (simp only [← hji6] <;> (first | rfl | simp)) | (simp [*]; done), dr⟩
  ·rw [if_neg c5] at H
   exact absurd H (by simp)
 ·(try simp only [Bool.not_true, Bool.not_false])
  obtain rfl := Option.some.inj H
  go_wp2
  go_ret
  exact ⟨ev, dr⟩

/-! ### impl_isCtl: function 68 -/
def impl_isCtl.j0 : Nat → Int → Bool → Int → Int → Int → Int → Option (Bool)
 | 0, _, _, _, _, _, _ => none
 | k + 1, x4, x5, x357000, x357001, x357002, x357003 => if x5 = true then (some (x357001 == 0 && (x357002 == 0 && (x357003 == 0)))) else (if x4 = 1 then ((impl_isClass.f x357001).bind fun t357 => (if t357 = true then (if x357002 = 0 then (some false) else ((impl_PerPage.f x357001).bind fun t358 => (if 0 ≤ t358 then (if x357002 < (shl .u32 1 t358) then (some (x357003 == 0)) else (some false)) else (none)))) else (some false))) else (if x4 = 2 then ((impl_within.f x357003 2 16).bind fun t359 => (if t359 = true then (if x357001 = 0 then (some (x357002 == 0)) else (some false)) else (some false))) else (some false)))
def impl_isCtl.f (k : Nat) (a0_0 : Int) (a0_1 : Int) (a0_2 : Int) (a0_3 : Int) : Option (Bool) := if a0_0 = 0 then (impl_isCtl.j0 k a0_0 (a0_0 == 0) a0_0 a0_1 a0_2 a0_3) else (impl_isCtl.j0 k a0_0 (a0_0 == 3) a0_0 a0_1 a0_2 a0_3)
theorem impl_isCtl.mono_l : ∀ k, (∀ y0 y1 y2 y3 y4 y5, LeO (impl_isCtl.j0 k y0 y1 y2 y3 y4 y5) (impl_isCtl.j0 (k + 1) y0 y1 y2 y3 y4 y5))
 | 0 => fun _ _ _ _ _ _ r h => by simp [impl_isCtl.j0] at h
 | k + 1 => by
  have ih0 := impl_isCtl.mono_l k
  ·intro y0 y1 y2 y3 y4 y5
   unfold impl_isCtl.j0
   repeat' first
    | (with_reducible first | exact ih0 .. | exact LeO.refl _ | exact LeO.none _ | refine LeO.ite ?_ ?_ | refine LeO.bind ?_ (fun _ => ?_))
    | exact LeO.none _ | refine LeO.ite ?_ ?_ | refine LeO.bind ?_ (fun _ => ?_)
theorem impl_isCtl.mono : ∀ a0 a1 a2 a3 k, LeO (impl_isCtl.f k a0 a1 a2 a3) (impl_isCtl.f (k + 1) a0 a1 a2 a3) := by
 intro a0 a1 a2 a3 k
 have ih0 := impl_isCtl.mono_l k
 unfold impl_isCtl.f
 repeat' first
  | (with_reducible first | exact ih0 .. | exact LeO.refl _ | exact LeO.none _ | refine LeO.ite ?_ ?_ | refine LeO.bind ?_ (fun _ => ?_))
  | exact LeO.none _ | refine LeO.ite ?_ ?_ | refine LeO.bind ?_ (fun _ => ?_)
set_option maxHeartbeats 8000000 in
set_option maxRecDepth 100000 in
theorem impl_isCtl.calls (k : Nat) (a0_0 : Int) (a0_1 : Int) (a0_2 : Int) (a0_3 : Int) (r : Bool) (w : World) (h : impl_isCtl.f k a0_0 a0_1 a0_2 a0_3 = some r) :
  Calls Tryz.prog 68 #[.agg #[.int .i64 a0_0, .int .i64 a0_1, .int .u32 a0_2, .int .i64 a0_3]] w fun e w' => e = .returned (.bool r) ∧ Below w.heap.size w w' := by
 have hu61 := Tryz.underlying61
 have HB := Aside0.mk (Below.refl w.heap.size w)
 unfold impl_isCtl.f at h
 have H := h
 clear h
 have HC2 := Aside0.mk H
 clear H
 go_enter Tryz.func68, Tryz.ntmps68
 go_upto_if 5 with (first | ((with_reducible refine gd 1 ?_); refine bx 1 61 #[.int .i64 a0_0, .int .i64 a0_1, .int .u32 a0_2, .int .i64 a0_3] ?_; clear HB; intro gb356 w3 hg BK356 hb GE356 HB; clear hb hg; obtain ⟨z4_0, z4_1, z4_2, z4_3⟩ := ca4 BK356; obtain ⟨f4_0, f4_1, f4_2, f4_3⟩ := fa4 BK356))
 repeat (go_quiet (first | ((with_reducible refine gd 1 ?_); refine bx 1 61 #[.int .i64 a0_0, .int .i64 a0_1, .int .u32 a0_2, .int .i64 a0_3] ?_; clear HB; intro gb356 w3 hg BK356 hb GE356 HB; clear hb hg; obtain ⟨z4_0, z4_1, z4_2, z4_3⟩ := ca4 BK356; obtain ⟨f4_0, f4_1, f4_2, f4_3⟩ := fa4 BK356)); go_upto_if 5 with (first | ((with_reducible refine gd 1 ?_); refine bx 1 61 #[.int .i64 a0_0, .int .i64 a0_1, .int .u32 a0_2, .int .i64 a0_3] ?_; clear HB; intro gb356 w3 hg BK356 hb GE356 HB; clear hb hg; obtain ⟨z4_0, z4_1, z4_2, z4_3⟩ := ca4 BK356; obtain ⟨f4_0, f4_1, f4_2, f4_3⟩ := fa4 BK356)))
 (try refine ap ?_)
 go_cut [5] (fun v5 wc => ∃ (kq : Nat) (x5_1 : Bool), v5 = .bool x5_1 ∧ Aside0 (impl_isCtl.j0 kq a0_0 x5_1 a0_0 a0_1 a0_2 a0_3 = some r) ∧ Aside0 (kq ≤ k) ∧ Aside0 (wc.heap[gb356]? = some (.cells #[.int .i64 a0_0, .int .i64 a0_1, .int .u32 a0_2, .int .i64 a0_3] 61 (0, 0))) ∧ Aside0 (Below w.heap.size w wc))
 case first =>
  have H := HC2.out
  clear HC2
  replace H := ieq H
  rcases H with ⟨c5b0, c5b1, H⟩ | ⟨c5, c5b0, c5b1, H⟩
  ·(first | rw [c5b0] | (simp only [i64_w, i32_w]; rw [c5b0]) | (simp only [c5b2, Bool.not_true, Bool.not_false]) | (simp only [c5b1, Bool.not_true, Bool.not_false]) | skip)
   have H' := Aside0.mk H
   clear H
   go_wp2
   repeat (go_quiet (fail); try go_wp2)
   go_meet
   case rel => exact ⟨_, ((a0_0 == 0)), ev, H', ⟨om⟩, ⟨bk BK356⟩, ⟨bw⟩⟩
  ·(first | rw [c5b0] | (simp only [i64_w, i32_w]; rw [c5b0]) | (simp only [c5b2, Bool.not_true, Bool.not_false]) | (simp only [c5b1, Bool.not_true, Bool.not_false]) | skip)
   have H' := Aside0.mk H
   clear H
   go_wp2
   repeat (go_quiet (fail); try go_wp2)
   go_meet
   case rel => exact ⟨_, ((a0_0 == 3)), ev, H', ⟨om⟩, ⟨bk BK356⟩, ⟨bw⟩⟩
 case rest =>
  clear HC2
  (try clear z4_0 z4_1 z4_2 z4_3)
  (try clear f4_0 f4_1 f4_2 f4_3)
  obtain ⟨kq, x5_1, rfl, HA, HJ1, BK356, HB⟩ := hcut
  cases kq with
  | zero => exact absurd HA.out (by simp [impl_isCtl.j0])
  | succ kj1 =>
   have H := HA.out
   clear HA
   simp only [impl_isCtl.j0] at H
   replace H := ib H
   rcases H with ⟨rfl, H⟩ | ⟨rfl, H⟩
   ·obtain rfl := Option.some.inj H
    obtain ⟨z7_0, z7_1, z7_2, z7_3⟩ := ca4 BK356
    obtain ⟨f7_0, f7_1, f7_2, f7_3⟩ := fa4 BK356
    go_wp2
    repeat (go_quiet (fail); try go_wp2)
    go_ret
    exact ⟨rt, bw⟩
   ·replace H := ieq H
    rcases H with ⟨c8b0, c8b1, H⟩ | ⟨c8, c8b0, c8b1, H⟩
    ·replace H := bn H
     obtain ⟨t357, A9, H⟩ := H
     try dsimp only at H
     replace H := ib H
     rcases H with ⟨rfl, H⟩ | ⟨rfl, H⟩
     ·replace H := ieq H
      rcases H with ⟨c11b0, c11b1, H⟩ | ⟨c11, c11b0, c11b1, H⟩
      ·obtain rfl := Option.some.inj H
       obtain ⟨z12_0, z12_1, z12_2, z12_3⟩ := ca4 BK356
       obtain ⟨f12_0, f12_1, f12_2, f12_3⟩ := fa4 BK356
       go_wp2_with (first | (go_at_call 87; (with_reducible refine (impl_isClass.calls _ _ _ A9.out).mono ?_); rintro e w' ⟨rfl, ⟨nd, rfl⟩⟩; (try first | exact ⟨rfl, _, World.drewN_drewN _ _ _⟩ | exact ⟨rfl, _, Eq.trans (World.drewN_drewN _ _ _) (congrArg (World.drewN _) (Nat.add_assoc _ _ _))⟩)))
       repeat (go_quiet (first | (go_at_call 87; (with_reducible refine (impl_isClass.calls _ _ _ A9.out).mono ?_); rintro e w' ⟨rfl, ⟨nd, rfl⟩⟩; (try first | exact ⟨rfl, _, World.drewN_drewN _ _ _⟩ | exact ⟨rfl, _, Eq.trans (World.drewN_drewN _ _ _) (congrArg (World.drewN _) (Nat.add_assoc _ _ _))⟩))); try go_wp2_with (first | (go_at_call 87; (with_reducible refine (impl_isClass.calls _ _ _ A9.out).mono ?_); rintro e w' ⟨rfl, ⟨nd, rfl⟩⟩; (try first | exact ⟨rfl, _, World.drewN_drewN _ _ _⟩ | exact ⟨rfl, _, Eq.trans (World.drewN_drewN _ _ _) (congrArg (World.drewN _) (Nat.add_assoc _ _ _))⟩))))
       go_ret
       exact ⟨rt, bw⟩
      ·replace H := bn H
       obtain ⟨t358, A13, H⟩ := H
       try dsimp only at H
       by_cases c14 : 0 ≤ t358
       ·rw [if_pos c14] at H
        have c14b0 := eq_true c14
        have c14b1 : decide (0 ≤ t358) = true := decide_eq_true c14
        clear c14
        obtain ⟨ji15, hji15⟩ : ∃ j_ : Int, (shl .u32 1 t358) = j_ := ⟨_, rfl⟩
        first | rw [hji15] at H | simp only [hji15] at H
        (try rw [hji15] at A9)
        (try rw [hji15] at A13)
        have hji15_ : (IntKind.u32.wrap (1 * 2 ^ min t358.toNat 32)) = ji15 := hji15
        have hji15z : t358 ≤ 32 → (IntKind.u32.wrap (1 * 2 ^ t358.toNat)) = ji15 := shl_small hji15
        have hji15u : (IntKind.u32.wrap (2 ^ min t358.toNat 32)) = ji15 := by have h_ := hji15_; rw [Int.one_mul] at h_; exact h_
        have hji15v : t358 ≤ 32 → (IntKind.u32.wrap (2 ^ t358.toNat)) = ji15 := fun hle_ => by have h_ := hji15z hle_; rw [Int.one_mul] at h_; exact h_
        replace H := ilt H
        rcases H with ⟨c16b0, H⟩ | ⟨c16b0, H⟩
        ·obtain rfl := Option.some.inj H
         obtain ⟨z17_0, z17_1, z17_2, z17_3⟩ := ca4 BK356
         obtain ⟨f17_0, f17_1, f17_2, f17_3⟩ := fa4 BK356
         go_wp2_with (first | (go_at_call 87; (with_reducible refine (impl_isClass.calls _ _ _ A9.out).mono ?_); rintro e w' ⟨rfl, ⟨nd, rfl⟩⟩; (try first | exact ⟨rfl, _, World.drewN_drewN _ _ _⟩ | exact ⟨rfl, _, Eq.trans (World.drewN_drewN _ _ _) (congrArg (World.drewN _) (Nat.add_assoc _ _ _))⟩)) | (go_at_call 88; (with_reducible refine (impl_PerPage.calls _ _ _ A13.out).mono ?_); rintro e w' ⟨rfl, ⟨nd, rfl⟩⟩; (try first | exact ⟨rfl, _, World.drewN_drewN _ _ _⟩ | exact ⟨rfl, _, Eq.trans (World.drewN_drewN _ _ _) (congrArg (World.drewN _) (Nat.add_assoc _ _ _))⟩)))
         repeat (go_quiet (first | (go_at_call 87; (with_reducible refine (impl_isClass.calls _ _ _ A9.out).mono ?_); rintro e w' ⟨rfl, ⟨nd, rfl⟩⟩; (try first | exact ⟨rfl, _, World.drewN_drewN _ _ _⟩ | exact ⟨rfl, _, Eq.trans (World.drewN_drewN _ _ _) (congrArg (World.drewN _) (Nat.add_assoc _ _ _))⟩)) | (go_at_call 88; (with_reducible refine (impl_PerPage.calls _ _ _ A13.out).mono ?_); rintro e w' ⟨rfl, ⟨nd, rfl⟩⟩; (try first | exact ⟨rfl, _, World.drewN_drewN _ _ _⟩ | exact ⟨rfl, _, Eq.trans (World.drewN_drewN _ _ _) (congrArg (World.drewN _) (Nat.add_assoc _ _ _))⟩))); try go_wp2_with (first | (go_at_call 87; (with_reducible refine (impl_isClass.calls _ _ _ A9.out).mono ?_); rintro e w' ⟨rfl, ⟨nd, rfl⟩⟩; (try first | exact ⟨rfl, _, World.drewN_drewN _ _ _⟩ | exact ⟨rfl, _, Eq.trans (World.drewN_drewN _ _ _) (congrArg (World.drewN _) (Nat.add_assoc _ _ _))⟩)) | (go_at_call 88; (with_reducible refine (impl_PerPage.calls _ _ _ A13.out).mono ?_); rintro e w' ⟨rfl, ⟨nd, rfl⟩⟩; (try first | exact ⟨rfl, _, World.drewN_drewN _ _ _⟩ | exact ⟨rfl, _, Eq.trans (World.drewN_drewN _ _ _) (congrArg (World.drewN _) (Nat.add_assoc _ _ _))⟩))))
         go_ret
         exact ⟨by first | exact rt1 | (simp only [← hji15]; exact rt1) | exact rt, bw⟩
        ·obtain rfl := Option.some.inj H
         obtain ⟨z18_0, z18_1, z18_2, z18_3⟩ := ca4 BK356
         obtain ⟨f18_0, f18_1, f18_2, f18_3⟩ := fa4 BK356
         go_wp2_with (first | (go_at_call 87; (with_reducible refine (impl_isClass.calls _ _ _ A9.out).mono ?_); rintro e w' ⟨rfl, ⟨nd, rfl⟩⟩; (try first | exact ⟨rfl, _, World.drewN_drewN _ _ _⟩ | exact ⟨rfl, _, Eq.trans (World.drewN_drewN _ _ _) (congrArg (World.drewN _) (Nat.add_assoc _ _ _))⟩)) | (go_at_call 88; (with_reducible refine (impl_PerPage.calls _ _ _ A13.out).mono ?_); rintro e w' ⟨rfl, ⟨nd, rfl⟩⟩; (try first | exact ⟨rfl, _, World.drewN_drewN _ _ _⟩ | exact ⟨rfl, _, Eq.trans (World.drewN_drewN _ _ _) (congrArg (World.drewN _) (Nat.add_assoc _ _ _))⟩)))
         repeat (go_quiet (first | (go_at_call 87; (with_reducible refine (impl_isClass.calls _ _ _ A9.out).mono ?_); rintro e w' ⟨rfl, ⟨nd, rfl⟩⟩; (try first | exact ⟨rfl, _, World.drewN_drewN _ _ _⟩ | exact ⟨rfl, _, Eq.trans (World.drewN_drewN _ _ _) (congrArg (World.drewN _) (Nat.add_assoc _ _ _))⟩)) | (go_at_call 88; (with_reducible refine (impl_PerPage.calls _ _ _ A13.out).mono ?_); rintro e w' ⟨rfl, ⟨nd, rfl⟩⟩; (try first | exact ⟨rfl, _, World.drewN_drewN _ _ _⟩ | exact ⟨rfl, _, Eq.trans (World.drewN_drewN _ _ _) (congrArg (World.drewN _) (Nat.add_assoc _ _ _))⟩))); try go_wp2_with (first | (go_at_call 87; (with_reducible refine (impl_isClass.calls _ _ _ A9.out).mono ?_); rintro e w' ⟨rfl, ⟨nd, rfl⟩⟩; (try first | exact ⟨rfl, _, World.drewN_drewN _ _ _⟩ | exact ⟨rfl, _, Eq.trans (World.drewN_drewN _ _ _) (congrArg (World.drewN _) (Nat.add_assoc _ _ _))⟩)) | (go_at_call 88; (with_reducible refine (impl_PerPage.calls _ _ _ A13.out).mono ?_); rintro e w' ⟨rfl, ⟨nd, rfl⟩⟩; (try first | exact ⟨rfl, _, World.drewN_drewN _ _ _⟩ | exact ⟨rfl, _, Eq.trans (World.drewN_drewN _ _ _) (congrArg (World.drewN _) (Nat.add_assoc _ _ _))⟩))))
         go_ret
         exact ⟨by first | exact rt1 | (simp only [← hji15]; exact rt1) | exact rt, bw⟩
       ·rw [if_neg c14] at H
        exact absurd H (by simp)
     ·obtain rfl := Option.some.inj H
      obtain ⟨z19_0, z19_1, z19_2, z19_3⟩ := ca4 BK356
      obtain ⟨f19_0, f19_1, f19_2, f19_3⟩ := fa4 BK356
      go_wp2_with (first | (go_at_call 87; (with_reducible refine (impl_isClass.calls _ _ _ A9.out).mono ?_); rintro e w' ⟨rfl, ⟨nd, rfl⟩⟩; (try first | exact ⟨rfl, _, World.drewN_drewN _ _ _⟩ | exact ⟨rfl, _, Eq.trans (World.drewN_drewN _ _ _) (congrArg (World.drewN _) (Nat.add_assoc _ _ _))⟩)))
      repeat (go_quiet (first | (go_at_call 87; (with_reducible refine (impl_isClass.calls _ _ _ A9.out).mono ?_); rintro e w' ⟨rfl, ⟨nd, rfl⟩⟩; (try first | exact ⟨rfl, _, World.drewN_drewN _ _ _⟩ | exact ⟨rfl, _, Eq.trans (World.drewN_drewN _ _ _) (congrArg (World.drewN _) (Nat.add_assoc _ _ _))⟩))); try go_wp2_with (first | (go_at_call 87; (with_reducible refine (impl_isClass.calls _ _ _ A9.out).mono ?_); rintro e w' ⟨rfl, ⟨nd, rfl⟩⟩; (try first | exact ⟨rfl, _, World.drewN_drewN _ _ _⟩ | exact ⟨rfl, _, Eq.trans (World.drewN_drewN _ _ _) (congrArg (World.drewN _) (Nat.add_assoc _ _ _))⟩))))
      go_ret
      exact ⟨rt, bw⟩
    ·replace H := ieq H
     rcases H with ⟨c20b0, c20b1, H⟩ | ⟨c20, c20b0, c20b1, H⟩
     ·replace H := bn H
      obtain ⟨t359, A21, H⟩ := H
      try dsimp only at H
      replace H := ib H
      rcases H with ⟨rfl, H⟩ | ⟨rfl, H⟩
      ·replace H := ieq H
       rcases H with ⟨c23b0, c23b1, H⟩ | ⟨c23, c23b0, c23b1, H⟩
       ·obtain rfl := Option.some.inj H
        obtain ⟨z24_0, z24_1, z24_2, z24_3⟩ := ca4 BK356
        obtain ⟨f24_0, f24_1, f24_2, f24_3⟩ := fa4 BK356
        go_wp2_with (first | (go_at_call 32; (with_reducible refine (impl_within.calls _ _ _ _ _ A21.out).mono ?_); rintro e w' ⟨rfl, ⟨nd, rfl⟩⟩; (try first | exact ⟨rfl, _, World.drewN_drewN _ _ _⟩ | exact ⟨rfl, _, Eq.trans (World.drewN_drewN _ _ _) (congrArg (World.drewN _) (Nat.add_assoc _ _ _))⟩)))
        repeat (go_quiet (first | (go_at_call 32; (with_reducible refine (impl_within.calls _ _ _ _ _ A21.out).mono ?_); rintro e w' ⟨rfl, ⟨nd, rfl⟩⟩; (try first | exact ⟨rfl, _, World.drewN_drewN _ _ _⟩ | exact ⟨rfl, _, Eq.trans (World.drewN_drewN _ _ _) (congrArg (World.drewN _) (Nat.add_assoc _ _ _))⟩))); try go_wp2_with (first | (go_at_call 32; (with_reducible refine (impl_within.calls _ _ _ _ _ A21.out).mono ?_); rintro e w' ⟨rfl, ⟨nd, rfl⟩⟩; (try first | exact ⟨rfl, _, World.drewN_drewN _ _ _⟩ | exact ⟨rfl, _, Eq.trans (World.drewN_drewN _ _ _) (congrArg (World.drewN _) (Nat.add_assoc _ _ _))⟩))))
        go_ret
        exact ⟨rt, bw⟩
       ·obtain rfl := Option.some.inj H
        obtain ⟨z25_0, z25_1, z25_2, z25_3⟩ := ca4 BK356
        obtain ⟨f25_0, f25_1, f25_2, f25_3⟩ := fa4 BK356
        go_wp2_with (first | (go_at_call 32; (with_reducible refine (impl_within.calls _ _ _ _ _ A21.out).mono ?_); rintro e w' ⟨rfl, ⟨nd, rfl⟩⟩; (try first | exact ⟨rfl, _, World.drewN_drewN _ _ _⟩ | exact ⟨rfl, _, Eq.trans (World.drewN_drewN _ _ _) (congrArg (World.drewN _) (Nat.add_assoc _ _ _))⟩)))
        repeat (go_quiet (first | (go_at_call 32; (with_reducible refine (impl_within.calls _ _ _ _ _ A21.out).mono ?_); rintro e w' ⟨rfl, ⟨nd, rfl⟩⟩; (try first | exact ⟨rfl, _, World.drewN_drewN _ _ _⟩ | exact ⟨rfl, _, Eq.trans (World.drewN_drewN _ _ _) (congrArg (World.drewN _) (Nat.add_assoc _ _ _))⟩))); try go_wp2_with (first | (go_at_call 32; (with_reducible refine (impl_within.calls _ _ _ _ _ A21.out).mono ?_); rintro e w' ⟨rfl, ⟨nd, rfl⟩⟩; (try first | exact ⟨rfl, _, World.drewN_drewN _ _ _⟩ | exact ⟨rfl, _, Eq.trans (World.drewN_drewN _ _ _) (congrArg (World.drewN _) (Nat.add_assoc _ _ _))⟩))))
        go_ret
        exact ⟨rt, bw⟩
      ·obtain rfl := Option.some.inj H
       obtain ⟨z26_0, z26_1, z26_2, z26_3⟩ := ca4 BK356
       obtain ⟨f26_0, f26_1, f26_2, f26_3⟩ := fa4 BK356
       go_wp2_with (first | (go_at_call 32; (with_reducible refine (impl_within.calls _ _ _ _ _ A21.out).mono ?_); rintro e w' ⟨rfl, ⟨nd, rfl⟩⟩; (try first | exact ⟨rfl, _, World.drewN_drewN _ _ _⟩ | exact ⟨rfl, _, Eq.trans (World.drewN_drewN _ _ _) (congrArg (World.drewN _) (Nat.add_assoc _ _ _))⟩)))
       repeat (go_quiet (first | (go_at_call 32; (with_reducible refine (impl_within.calls _ _ _ _ _ A21.out).mono ?_); rintro e w' ⟨rfl, ⟨nd, rfl⟩⟩; (try first | exact ⟨rfl, _, World.drewN_drewN _ _ _⟩ | exact ⟨rfl, _, Eq.trans (World.drewN_drewN _ _ _) (congrArg (World.drewN _) (Nat.add_assoc _ _ _))⟩))); try go_wp2_with (first | (go_at_call 32; (with_reducible refine (impl_within.calls _ _ _ _ _ A21.out).mono ?_); rintro e w' ⟨rfl, ⟨nd, rfl⟩⟩; (try first | exact ⟨rfl, _, World.drewN_drewN _ _ _⟩ | exact ⟨rfl, _, Eq.trans (World.drewN_drewN _ _ _) (congrArg (World.drewN _) (Nat.add_assoc _ _ _))⟩))))
       go_ret
       exact ⟨rt, bw⟩
     ·obtain rfl := Option.some.inj H
      go_wp2
      repeat (go_quiet (fail); try go_wp2)
      go_ret
      exact ⟨rt, bw⟩

/-! ### impl_CtlRead: function 39 -/
def impl_CtlRead.f (k : Nat) (a0 : Int) : Option (Int × Int × Int × Int × Bool) := (impl_isCtl.f k (wrap64 (Go.bits .and .u32 (a0 / 1048576) 15)) (wrap64 (Go.bits .and .u32 (a0 / 65536) 15)) (Go.bits .and .u32 a0 65535) (wrap64 (a0 / 16777216))).bind fun t362 => (if t362 = true then (some (wrap64 (Go.bits .and .u32 (a0 / 1048576) 15), wrap64 (Go.bits .and .u32 (a0 / 65536) 15), Go.bits .and .u32 a0 65535, wrap64 (a0 / 16777216), true)) else (some (0, 0, 0, 0, false)))
theorem impl_CtlRead.mono : ∀ a0 k, LeO (impl_CtlRead.f k a0) (impl_CtlRead.f (k + 1) a0) := by
 intro a0 k
 unfold impl_CtlRead.f
 repeat' first
  | (with_reducible first | exact impl_isCtl.mono .. | exact LeO.refl _ | exact LeO.none _ | refine LeO.ite ?_ ?_ | refine LeO.bind ?_ (fun _ => ?_))
  | exact LeO.none _ | refine LeO.ite ?_ ?_ | refine LeO.bind ?_ (fun _ => ?_)
set_option maxHeartbeats 8000000 in
set_option maxRecDepth 100000 in
theorem impl_CtlRead.calls (k : Nat) (a0 : Int) (r1 : Int) (r2 : Int) (r3 : Int) (r4 : Int) (r5 : Bool) (w : World) (h : impl_CtlRead.f k a0 = some (r1, r2, r3, r4, r5)) :
  Calls Tryz.prog 39 #[.int .u32 a0] w fun e w' => e = .returned (.tuple #[.agg #[.int .i64 r1, .int .i64 r2, .int .u32 r3, .int .i64 r4], .bool r5]) ∧ Below w.heap.size w w' := by
 have hu61 := Tryz.underlying61
 have HB := Aside0.mk (Below.refl w.heap.size w)
 unfold impl_CtlRead.f at h
 have H := h
 clear h
 replace H := bn H
 obtain ⟨t362, A2, H⟩ := H
 try dsimp only at H
 have HU3 := Aside0.mk H
 clear H
 go_enter Tryz.func39, Tryz.ntmps39
 go_upto_if 21 with (first | ((with_reducible refine gd 2 ?_); refine bx 2 61 #[.int .i64 0, .int .i64 0, .int .u32 0, .int .i64 0] ?_; clear HB; intro gb360 w4 hg BK360 hb GE360 HB; clear hb hg) | ((with_reducible refine gd 4 ?_); refine bx 4 61 #[.int .i64 0, .int .i64 0, .int .u32 0, .int .i64 0] ?_; clear HB; intro gb361 w5 hg BK361 hb GE361 HB; have NB360_361 := nl BK360 hg; have NB361_360 := ng BK360 hg; replace BK360 := b_ BK360 hb; clear hb hg; have hnb6 := NB361_360.out; have hnc6 := NB360_361.out; obtain ⟨z7_0, z7_1, z7_2, z7_3⟩ := ca4 BK361; obtain ⟨f7_0, f7_1, f7_2, f7_3⟩ := fa4 BK361) | ((with_reducible refine gf 68 ?_); refine gc Tryz.func68 (some 20) (impl_isCtl.calls _ _ _ _ _ _ _ A2.out) ?_; rintro e w8 ⟨rfl, hb⟩; refine ⟨_, rfl, ?_⟩; replace BK360 := b_ BK360 hb; replace BK361 := bq BK361 #[.int .i64 (wrap64 (Go.bits .and .u32 (a0 / 1048576) 15)), .int .i64 (wrap64 (Go.bits .and .u32 (a0 / 65536) 15)), .int .u32 (Go.bits .and .u32 a0 65535), .int .i64 (wrap64 (a0 / 16777216))] hb; replace HB := hs hb; try clear hb))
 (try refine ap ?_)
 have H := HU3.out
 clear HU3
 replace H := ib H
 rcases H with ⟨rfl, H⟩ | ⟨rfl, H⟩
 ·(try simp only [Bool.not_true, Bool.not_false])
  simp only [Option.some.injEq, Prod.mk.injEq] at H
  obtain ⟨rfl, rfl, rfl, rfl, rfl⟩ := H
  have hnb10 := NB361_360.out
  have hnc10 := NB360_361.out
  obtain ⟨z11_0, z11_1, z11_2, z11_3⟩ := ca4 BK361
  obtain ⟨f11_0, f11_1, f11_2, f11_3⟩ := fa4 BK361
  obtain ⟨z12_0, z12_1, z12_2, z12_3⟩ := ca4 BK360
  obtain ⟨f12_0, f12_1, f12_2, f12_3⟩ := fa4 BK360
  go_wp2
  refine bodyPost_ret (results_ct rfl _ _ gb360 61 #[.int .i64 (wrap64 (Go.bits .and .u32 (a0 / 1048576) 15)), .int .i64 (wrap64 (Go.bits .and .u32 (a0 / 65536) 15)), .int .u32 (Go.bits .and .u32 a0 65535), .int .i64 (wrap64 (a0 / 16777216))] (0, 0) _ rfl (bp BK360) Tryz.underlying61 rfl kr) rfl ?_
  exact ⟨rt, bw⟩
 ·(try simp only [Bool.not_true, Bool.not_false])
  simp only [Option.some.injEq, Prod.mk.injEq] at H
  obtain ⟨rfl, rfl, rfl, rfl, rfl⟩ := H
  have hnb13 := NB360_361.out
  have hnc13 := NB361_360.out
  obtain ⟨z14_0, z14_1, z14_2, z14_3⟩ := ca4 BK360
  obtain ⟨f14_0, f14_1, f14_2, f14_3⟩ := fa4 BK360
  go_wp2
  refine bodyPost_ret (results_ct rfl _ _ gb360 61 #[.int .i64 0, .int .i64 0, .int .u32 0, .int .i64 0] (0, 0) _ rfl (bp BK360) Tryz.underlying61 rfl kr) rfl ?_
  exact ⟨rt, bw⟩

end Go.Proofs.YtfhcnnkeokjfpaaGreatDoor.PO1
