/- What functions of the program compute, each as a Lean function, and that the run comes to just that. Conditions: none. -/
import Derived.Test.YtfhcnnkeokjfpaaDoorTS1
import Derived.Test.YtfhcnnkeokjfpaaDoorT2S1
import Derived.Test.YtfhcnnkeokjfpaaDoorPS1x0
import Derived.Test.YtfhcnnkeokjfpaaDoorPS1x2
import Derived.Test.YtfhcnnkeokjfpaaDoorPS1x5
namespace Go.Proofs.YtfhcnnkeokjfpaaDoor.PS1
open Go.RowKit Go.Proofs.YtfhcnnkeokjfpaaDoorW.PrintWords Go.Proofs.YtfhcnnkeokjfpaaDoorW.PrintLast Go.Proofs.YtfhcnnkeokjfpaaDoorW.PrintMore Go.Proofs.YtfhcnnkeokjfpaaDoor.T
attribute [local go_sem] max2_int min2_int max_two min_two max_three min_three max_four min_four   -- for this text's walks alone
set_option linter.unusedVariables false
set_option linter.unusedSimpArgs false

/-! ### laws_FnExactWarpSubmit: function 5 -/
mutual
def laws_FnExactWarpSubmit.j0 : Nat → Bool → Bool → Bool → Int → List Int → List Int → Int → Int → Int → Int → Int → Int → List Int → Int → List Int → List Int → Int → Int → Int → Int → Int → Int → List Int → List Int → Int → Int → Int → Int → Int → Int → List Int → Int → List Int → List Int → Int → Int → Int → Int → Int → Option (Bool)
 | 0, _, _, _, _, _, _, _, _, _, _, _, _, _, _, _, _, _, _, _, _, _, _, _, _, _, _, _, _, _, _, _, _, _, _, _, _, _, _, _ => none
 | k + 1, x7, x11, x53, x558000, x558001, x558002, x558003, x558004, x558005, x558006, x558007, x559000, x559001, x591000, x591001, x591002, x591003, x591004, x591005, x591006, x591007, x604000, x604001, x604002, x604003, x604004, x604005, x604006, x604007, x609000, x609001, x623000, x623001, x623002, x623003, x623004, x623005, x623006, x623007 => if x53 = true then (some false) else ((laws_toWarp.f k x558000 x558001 x558002 x558003 x558004 x558005 x558006 x558007).bind fun bt624 => ((laws_eqWarp.f k x604000 x604001 x604002 x604003 x604004 x604005 x604006 x604007 bt624.1 bt624.2.1 bt624.2.2.1 bt624.2.2.2.1 bt624.2.2.2.2.1 bt624.2.2.2.2.2.1 bt624.2.2.2.2.2.2.1 bt624.2.2.2.2.2.2.2).bind fun t636 => (if t636 = true then ((laws_toReq.f k x559000 x559001).bind fun bt637 => ((laws_eqReq.f k x609000 x609001 bt637.1 bt637.2).bind fun t641 => (if t641 = true then ((laws_markWarp.f k x604000 x604001 x604002 x604003 x604004 x604005 x604006 x604007 1).bind fun bt642 => ((laws_markReq.f k x609000 x609001 bt642.1).bind fun bt645 => (if bt645.1 < 0 then (laws_FnExactWarpSubmit.j1 k x7 true x558000 x558001 x558002 x558003 x558004 x558005 x558006 x558007 x559000 x559001 x591000 x591001 x591002 x591003 x591004 x591005 x591006 x591007 x623000 x623001 x623002 x623003 x623004 x623005 x623006 x623007) else ((laws_eqWarp.f k x623000 x623001 x623002 x623003 x623004 x623005 x623006 x623007 x591000 x591001 x591002 x591003 x591004 x591005 x591006 x591007).bind fun t647 => (if t647 = true then (laws_FnExactWarpSubmit.j1 k x7 (x11 != x7) x558000 x558001 x558002 x558003 x558004 x558005 x558006 x558007 x559000 x559001 x591000 x591001 x591002 x591003 x591004 x591005 x591006 x591007 x623000 x623001 x623002 x623003 x623004 x623005 x623006 x623007) else (laws_FnExactWarpSubmit.j1 k x7 true x558000 x558001 x558002 x558003 x558004 x558005 x558006 x558007 x559000 x559001 x591000 x591001 x591002 x591003 x591004 x591005 x591006 x591007 x623000 x623001 x623002 x623003 x623004 x623005 x623006 x623007)))))) else (some false)))) else (some false))))
def laws_FnExactWarpSubmit.j1 : Nat → Bool → Bool → Int → List Int → List Int → Int → Int → Int → Int → Int → Int → List Int → Int → List Int → List Int → Int → Int → Int → Int → Int → Int → List Int → List Int → Int → Int → Int → Int → Int → Option (Bool)
 | 0, _, _, _, _, _, _, _, _, _, _, _, _, _, _, _, _, _, _, _, _, _, _, _, _, _, _, _, _ => none
 | k + 1, x7, x82, x558000, x558001, x558002, x558003, x558004, x558005, x558006, x558007, x559000, x559001, x591000, x591001, x591002, x591003, x591004, x591005, x591006, x591007, x623000, x623001, x623002, x623003, x623004, x623005, x623006, x623007 => if x82 = true then (some false) else ((laws_markWarp.f k x623000 x623001 x623002 x623003 x623004 x623005 x623006 x623007 1).bind fun bt648 => ((laws_heldWarp.f k x623000 bt648.2.1 bt648.2.2 x623003 x623004 x623005 x623006 x623007 1).bind fun t651 => (if t651 < 0 then (some false) else (if t651 = bt648.1 then ((laws_toWarp.f k x558000 x558001 x558002 x558003 x558004 x558005 x558006 x558007).bind fun bt652 => ((laws_toReq.f k x559000 x559001).bind fun bt664 => ((impl_WarpSubmit.f k bt652.1 bt652.2.1 bt652.2.2.1 bt652.2.2.2.1 bt652.2.2.2.2.1 bt652.2.2.2.2.2.1 bt652.2.2.2.2.2.2.1 bt652.2.2.2.2.2.2.2 bt664.1 bt664.2).bind fun bt668 => ((laws_eqWarp.f k bt668.1 bt668.2.1 bt668.2.2.1 bt668.2.2.2.1 bt668.2.2.2.2.1 bt668.2.2.2.2.2.1 bt668.2.2.2.2.2.2.1 bt668.2.2.2.2.2.2.2.1 x591000 x591001 x591002 x591003 x591004 x591005 x591006 x591007).bind fun t682 => (if t682 = true then (laws_FnExactWarpSubmit.j2 k bt648.1 (bt668.2.2.2.2.2.2.2.2 != x7) x623000 bt648.2.1 bt648.2.2 x623003 x623004 x623005 x623006 x623007) else (laws_FnExactWarpSubmit.j2 k bt648.1 true x623000 bt648.2.1 bt648.2.2 x623003 x623004 x623005 x623006 x623007)))))) else (some false)))))
def laws_FnExactWarpSubmit.j2 : Nat → Int → Bool → Int → List Int → List Int → Int → Int → Int → Int → Int → Option (Bool)
 | 0, _, _, _, _, _, _, _, _, _, _ => none
 | k + 1, x13, x110, x623000, x623001, x623002, x623003, x623004, x623005, x623006, x623007 => if x110 = true then (some false) else ((laws_heldWarp.f k x623000 x623001 x623002 x623003 x623004 x623005 x623006 x623007 1).bind fun t683 => (if t683 < 0 then (some false) else (if t683 = x13 then (some true) else (some false))))
end
def laws_FnExactWarpSubmit.f (k : Nat) (a0_0 : Int) (l0_1 : List Int) (l0_2 : List Int) (a0_3 : Int) (a0_4 : Int) (a0_5 : Int) (a0_6 : Int) (a0_7 : Int) (a1_0 : Int) (l1_1 : List Int) : Option (Bool) := (laws_szWarp.f a0_0 l0_1 l0_2 a0_3 a0_4 a0_5 a0_6 a0_7 1048576).bind fun t559 => (if t559 < 0 then (some true) else ((laws_szReq.f a1_0 l1_1 t559).bind fun t560 => (if t560 < 0 then (some true) else ((laws_toWarp.f k a0_0 l0_1 l0_2 a0_3 a0_4 a0_5 a0_6 a0_7).bind fun bt561 => ((laws_toReq.f k a1_0 l1_1).bind fun bt573 => ((spec_WarpSubmit.f k bt561.1 bt561.2.1 bt561.2.2.1 bt561.2.2.2.1 bt561.2.2.2.2.1 bt561.2.2.2.2.2.1 bt561.2.2.2.2.2.2.1 bt561.2.2.2.2.2.2.2 bt573.1 bt573.2).bind fun bt577 => ((laws_toWarp.f k a0_0 l0_1 l0_2 a0_3 a0_4 a0_5 a0_6 a0_7).bind fun bt591 => ((laws_toReq.f k a1_0 l1_1).bind fun bt604 => ((impl_WarpSubmit.f k bt591.1 bt591.2.1 bt591.2.2.1 bt591.2.2.2.1 bt591.2.2.2.2.1 bt591.2.2.2.2.2.1 bt591.2.2.2.2.2.2.1 bt591.2.2.2.2.2.2.2 bt604.1 bt604.2).bind fun bt609 => ((laws_eqWarp.f k bt609.1 bt609.2.1 bt609.2.2.1 bt609.2.2.2.1 bt609.2.2.2.2.1 bt609.2.2.2.2.2.1 bt609.2.2.2.2.2.2.1 bt609.2.2.2.2.2.2.2.1 bt577.1 bt577.2.1 bt577.2.2.1 bt577.2.2.2.1 bt577.2.2.2.2.1 bt577.2.2.2.2.2.1 bt577.2.2.2.2.2.2.1 bt577.2.2.2.2.2.2.2.1).bind fun t623 => (if t623 = true then (laws_FnExactWarpSubmit.j0 k bt577.2.2.2.2.2.2.2.2 bt609.2.2.2.2.2.2.2.2 (bt609.2.2.2.2.2.2.2.2 != bt577.2.2.2.2.2.2.2.2) a0_0 l0_1 l0_2 a0_3 a0_4 a0_5 a0_6 a0_7 a1_0 l1_1 bt577.1 bt577.2.1 bt577.2.2.1 bt577.2.2.2.1 bt577.2.2.2.2.1 bt577.2.2.2.2.2.1 bt577.2.2.2.2.2.2.1 bt577.2.2.2.2.2.2.2.1 bt591.1 bt591.2.1 bt591.2.2.1 bt591.2.2.2.1 bt591.2.2.2.2.1 bt591.2.2.2.2.2.1 bt591.2.2.2.2.2.2.1 bt591.2.2.2.2.2.2.2 bt604.1 bt604.2 bt609.1 bt609.2.1 bt609.2.2.1 bt609.2.2.2.1 bt609.2.2.2.2.1 bt609.2.2.2.2.2.1 bt609.2.2.2.2.2.2.1 bt609.2.2.2.2.2.2.2.1) else (laws_FnExactWarpSubmit.j0 k bt577.2.2.2.2.2.2.2.2 bt609.2.2.2.2.2.2.2.2 true a0_0 l0_1 l0_2 a0_3 a0_4 a0_5 a0_6 a0_7 a1_0 l1_1 bt577.1 bt577.2.1 bt577.2.2.1 bt577.2.2.2.1 bt577.2.2.2.2.1 bt577.2.2.2.2.2.1 bt577.2.2.2.2.2.2.1 bt577.2.2.2.2.2.2.2.1 bt591.1 bt591.2.1 bt591.2.2.1 bt591.2.2.2.1 bt591.2.2.2.2.1 bt591.2.2.2.2.2.1 bt591.2.2.2.2.2.2.1 bt591.2.2.2.2.2.2.2 bt604.1 bt604.2 bt609.1 bt609.2.1 bt609.2.2.1 bt609.2.2.2.1 bt609.2.2.2.2.1 bt609.2.2.2.2.2.1 bt609.2.2.2.2.2.2.1 bt609.2.2.2.2.2.2.2.1))))))))))))
theorem laws_FnExactWarpSubmit.mono_l : ∀ k, (∀ y0 y1 y2 y3 y4 y5 y6 y7 y8 y9 y10 y11 y12 y13 y14 y15 y16 y17 y18 y19 y20 y21 y22 y23 y24 y25 y26 y27 y28 y29 y30 y31 y32 y33 y34 y35 y36 y37 y38, LeO (laws_FnExactWarpSubmit.j0 k y0 y1 y2 y3 y4 y5 y6 y7 y8 y9 y10 y11 y12 y13 y14 y15 y16 y17 y18 y19 y20 y21 y22 y23 y24 y25 y26 y27 y28 y29 y30 y31 y32 y33 y34 y35 y36 y37 y38) (laws_FnExactWarpSubmit.j0 (k + 1) y0 y1 y2 y3 y4 y5 y6 y7 y8 y9 y10 y11 y12 y13 y14 y15 y16 y17 y18 y19 y20 y21 y22 y23 y24 y25 y26 y27 y28 y29 y30 y31 y32 y33 y34 y35 y36 y37 y38)) ∧ (∀ y0 y1 y2 y3 y4 y5 y6 y7 y8 y9 y10 y11 y12 y13 y14 y15 y16 y17 y18 y19 y20 y21 y22 y23 y24 y25 y26 y27, LeO (laws_FnExactWarpSubmit.j1 k y0 y1 y2 y3 y4 y5 y6 y7 y8 y9 y10 y11 y12 y13 y14 y15 y16 y17 y18 y19 y20 y21 y22 y23 y24 y25 y26 y27) (laws_FnExactWarpSubmit.j1 (k + 1) y0 y1 y2 y3 y4 y5 y6 y7 y8 y9 y10 y11 y12 y13 y14 y15 y16 y17 y18 y19 y20 y21 y22 y23 y24 y25 y26 y27)) ∧ (∀ y0 y1 y2 y3 y4 y5 y6 y7 y8 y9, LeO (laws_FnExactWarpSubmit.j2 k y0 y1 y2 y3 y4 y5 y6 y7 y8 y9) (laws_FnExactWarpSubmit.j2 (k + 1) y0 y1 y2 y3 y4 y5 y6 y7 y8 y9))
 | 0 => ⟨fun _ _ _ _ _ _ _ _ _ _ _ _ _ _ _ _ _ _ _ _ _ _ _ _ _ _ _ _ _ _ _ _ _ _ _ _ _ _ _ r h => by simp [laws_FnExactWarpSubmit.j0] at h, fun _ _ _ _ _ _ _ _ _ _ _ _ _ _ _ _ _ _ _ _ _ _ _ _ _ _ _ _ r h => by simp [laws_FnExactWarpSubmit.j1] at h, fun _ _ _ _ _ _ _ _ _ _ r h => by simp [laws_FnExactWarpSubmit.j2] at h⟩
 | k + 1 => by
  obtain ⟨ih0, ih1, ih2⟩ := laws_FnExactWarpSubmit.mono_l k
  refine ⟨?_, ?_, ?_⟩
  ·intro y0 y1 y2 y3 y4 y5 y6 y7 y8 y9 y10 y11 y12 y13 y14 y15 y16 y17 y18 y19 y20 y21 y22 y23 y24 y25 y26 y27 y28 y29 y30 y31 y32 y33 y34 y35 y36 y37 y38
   unfold laws_FnExactWarpSubmit.j0
   repeat' first
    | (with_reducible first | exact ih0 .. | exact ih1 .. | exact ih2 .. | exact impl_WarpSubmit.mono .. | exact laws_eqReq.mono .. | exact laws_eqWarp.mono .. | exact laws_heldWarp.mono .. | exact laws_markReq.mono .. | exact laws_markWarp.mono .. | exact laws_toReq.mono .. | exact laws_toWarp.mono .. | exact spec_WarpSubmit.mono .. | exact LeO.refl _ | exact LeO.none _ | refine LeO.ite ?_ ?_ | refine LeO.bind ?_ (fun _ => ?_))
    | exact LeO.none _ | refine LeO.ite ?_ ?_ | refine LeO.bind ?_ (fun _ => ?_)
  ·intro y0 y1 y2 y3 y4 y5 y6 y7 y8 y9 y10 y11 y12 y13 y14 y15 y16 y17 y18 y19 y20 y21 y22 y23 y24 y25 y26 y27
   unfold laws_FnExactWarpSubmit.j1
   repeat' first
    | (with_reducible first | exact ih0 .. | exact ih1 .. | exact ih2 .. | exact impl_WarpSubmit.mono .. | exact laws_eqReq.mono .. | exact laws_eqWarp.mono .. | exact laws_heldWarp.mono .. | exact laws_markReq.mono .. | exact laws_markWarp.mono .. | exact laws_toReq.mono .. | exact laws_toWarp.mono .. | exact spec_WarpSubmit.mono .. | exact LeO.refl _ | exact LeO.none _ | refine LeO.ite ?_ ?_ | refine LeO.bind ?_ (fun _ => ?_))
    | exact LeO.none _ | refine LeO.ite ?_ ?_ | refine LeO.bind ?_ (fun _ => ?_)
  ·intro y0 y1 y2 y3 y4 y5 y6 y7 y8 y9
   unfold laws_FnExactWarpSubmit.j2
   repeat' first
    | (with_reducible first | exact ih0 .. | exact ih1 .. | exact ih2 .. | exact impl_WarpSubmit.mono .. | exact laws_eqReq.mono .. | exact laws_eqWarp.mono .. | exact laws_heldWarp.mono .. | exact laws_markReq.mono .. | exact laws_markWarp.mono .. | exact laws_toReq.mono .. | exact laws_toWarp.mono .. | exact spec_WarpSubmit.mono .. | exact LeO.refl _ | exact LeO.none _ | refine LeO.ite ?_ ?_ | refine LeO.bind ?_ (fun _ => ?_))
    | exact LeO.none _ | refine LeO.ite ?_ ?_ | refine LeO.bind ?_ (fun _ => ?_)
theorem laws_FnExactWarpSubmit.mono : ∀ a0 a1 a2 a3 a4 a5 a6 a7 a8 a9 k, LeO (laws_FnExactWarpSubmit.f k a0 a1 a2 a3 a4 a5 a6 a7 a8 a9) (laws_FnExactWarpSubmit.f (k + 1) a0 a1 a2 a3 a4 a5 a6 a7 a8 a9) := by
 intro a0 a1 a2 a3 a4 a5 a6 a7 a8 a9 k
 obtain ⟨ih0, ih1, ih2⟩ := laws_FnExactWarpSubmit.mono_l k
 unfold laws_FnExactWarpSubmit.f
 repeat' first
  | (with_reducible first | exact ih0 .. | exact ih1 .. | exact ih2 .. | exact impl_WarpSubmit.mono .. | exact laws_eqReq.mono .. | exact laws_eqWarp.mono .. | exact laws_heldWarp.mono .. | exact laws_markReq.mono .. | exact laws_markWarp.mono .. | exact laws_toReq.mono .. | exact laws_toWarp.mono .. | exact spec_WarpSubmit.mono .. | exact LeO.refl _ | exact LeO.none _ | refine LeO.ite ?_ ?_ | refine LeO.bind ?_ (fun _ => ?_))
  | exact LeO.none _ | refine LeO.ite ?_ ?_ | refine LeO.bind ?_ (fun _ => ?_)
def laws_FnExactWarpSubmit.T8 : Bool × List (List Nat × List Nat) := (true, [([], []), ([0], [0]), ([], []), ([2, 1], [2]), ([1, 3, 3], [1, 3]), ([4], [4]), ([5], [5]), ([5], [5]), ([], []), ([8, 6, 4, 0, 1, 2, 3, 4, 5, 6, 8], [6, 8]), ([7, 9, 0, 1, 2, 3, 4, 5, 6, 7, 8, 9], [7])])
def laws_FnExactWarpSubmit.B8 : List Nat := [0, 1, 0, 7, 15, 31, 63, 63, 0, 383, 1023]
theorem laws_FnExactWarpSubmit.tab8 : rtab .any (opsOf Tryd.f5 8) = laws_FnExactWarpSubmit.T8 := kr
theorem laws_FnExactWarpSubmit.bits8 : waitsOk laws_FnExactWarpSubmit.T8.2 laws_FnExactWarpSubmit.B8 = true := kr
def laws_FnExactWarpSubmit.T31 : Bool × List (List Nat × List Nat) := (true, [([], []), ([0], [0]), ([], []), ([2, 1], [2]), ([1, 3, 3], [1, 3]), ([4], [4]), ([5], [5]), ([5], [5]), ([], []), ([8, 6, 4, 0, 1, 2, 3, 4, 5, 6, 8], [6, 8]), ([7, 9, 0, 1, 2, 3, 4, 5, 6, 7, 8, 9], [7])])
def laws_FnExactWarpSubmit.B31 : List Nat := [0, 1, 0, 7, 15, 31, 63, 63, 0, 383, 1023]
theorem laws_FnExactWarpSubmit.tab31 : rtab .any (opsOf Tryd.f5 31) = laws_FnExactWarpSubmit.T31 := kr
theorem laws_FnExactWarpSubmit.bits31 : waitsOk laws_FnExactWarpSubmit.T31.2 laws_FnExactWarpSubmit.B31 = true := kr
set_option maxHeartbeats 60000000 in
set_option maxRecDepth 100000 in
theorem laws_FnExactWarpSubmit.calls (k : Nat) (a0_0 : Int) (A0_1 : Option Addr) (c0_1 : Nat) (l0_1 : List Int) (A0_2 : Option Addr) (c0_2 : Nat) (l0_2 : List Int) (a0_3 : Int) (a0_4 : Int) (a0_5 : Int) (a0_6 : Int) (a0_7 : Int) (a1_0 : Int) (A1_1 : Option Addr) (c1_1 : Nat) (l1_1 : List Int) (r : Bool) (w : World) (hr0_1 : Kd.C (Kd.int .i64) w A0_1 l0_1.length l0_1) (hc0_1 : l0_1.length ≤ c0_1) (hr0_2 : Kd.C (Kd.int .i64) w A0_2 l0_2.length l0_2) (hc0_2 : l0_2.length ≤ c0_2) (hr1_1 : Kd.C (Kd.int .i64) w A1_1 l1_1.length l1_1) (hc1_1 : l1_1.length ≤ c1_1) (h : laws_FnExactWarpSubmit.f k a0_0 l0_1 l0_2 a0_3 a0_4 a0_5 a0_6 a0_7 a1_0 l1_1 = some r) (hT : GT w) :
  Calls Tryd.prog 5 #[.agg #[.int .i64 a0_0, .slice A0_1 l0_1.length c0_1, .slice A0_2 l0_2.length c0_2, .int .u32 a0_3, .int .i64 a0_4, .int .i64 a0_5, .int .i64 a0_6, .int .u32 a0_7], .agg #[.int .i64 a1_0, .slice A1_1 l1_1.length c1_1]] w fun e w' => e = .returned (.bool r) ∧ Below w.heap.size w w' := by
 have hu25 := Tryd.underlying25
 have hu35 := Tryd.underlying35
 have hu28 := Tryd.underlying28
 have hu39 := Tryd.underlying39
 have HR0_1 := Aside0.mk hr0_1
 have HC0_1 := Aside0.mk hc0_1
 clear hr0_1 hc0_1
 have HR0_2 := Aside0.mk hr0_2
 have HC0_2 := Aside0.mk hc0_2
 clear hr0_2 hc0_2
 have HR1_1 := Aside0.mk hr1_1
 have HC1_1 := Aside0.mk hc1_1
 clear hr1_1 hc1_1
 have HB := Aside0.mk (Below.refl w.heap.size w)
 unfold laws_FnExactWarpSubmit.f at h
 have H := h
 clear h
 replace H := bn H
 obtain ⟨t559, A3, H⟩ := H
 try dsimp only at H
 have HU4 := Aside0.mk H
 clear H
 go_enter Tryd.func5, Tryd.ntmps5
 go_upto_if 21 with (first | ((with_reducible refine gd 2 ?_); refine bx 2 25 #[.int .i64 a0_0, .slice A0_1 l0_1.length c0_1, .slice A0_2 l0_2.length c0_2, .int .u32 a0_3, .int .i64 a0_4, .int .i64 a0_5, .int .i64 a0_6, .int .u32 a0_7] ?_; clear HB; intro gb557 w5 hg BK557 hb GE557 HB; clear hb hg) | ((with_reducible refine gd 3 ?_); refine bx 3 35 #[.int .i64 a1_0, .slice A1_1 l1_1.length c1_1] ?_; clear HB; intro gb558 w6 hg BK558 hb GE558 HB; have NB557_558 := nl BK557 hg; have NB558_557 := ng BK557 hg; replace BK557 := b_ BK557 hb; clear hb hg; have hnb7 := NB557_558.out; have hnc7 := NB558_557.out; obtain ⟨z8_0, z8_1, z8_2, z8_3, z8_4, z8_5, z8_6, z8_7⟩ := ca8 BK557; obtain ⟨f8_0, f8_1, f8_2, f8_3, f8_4, f8_5, f8_6, f8_7⟩ := fa8 BK557) | ((with_reducible refine gf 8 ?_); refine gc Tryd.func8 (some 19) (laws_szWarp.calls _ A0_1 c0_1 _ A0_2 c0_2 _ _ _ _ _ _ _ _ _ (cb HR0_1) HC0_1.out (cb HR0_2) HC0_2.out A3.out) ?_; rintro e w9 ⟨rfl, hb⟩; refine ⟨_, rfl, ?_⟩; replace BK557 := b_ BK557 hb; replace BK558 := b_ BK558 hb; replace HB := hs hb; try clear hb))
 (try refine ap ?_)
 have H := HU4.out
 clear HU4
 replace H := ilt H
 rcases H with ⟨c10b0, H⟩ | ⟨c10b0, H⟩
 ·(first | rw [c10b0] | (simp only [i64_w, i32_w]; rw [c10b0]) | (simp only [c10b2, Bool.not_true, Bool.not_false]) | (simp only [c10b1, Bool.not_true, Bool.not_false]) | skip)
  obtain rfl := Option.some.inj H
  go_wp2
  go_ret
  exact ⟨rt, bw⟩
 ·(first | rw [c10b0] | (simp only [i64_w, i32_w]; rw [c10b0]) | (simp only [c10b2, Bool.not_true, Bool.not_false]) | (simp only [c10b1, Bool.not_true, Bool.not_false]) | skip)
  replace H := bn H
  obtain ⟨t560, A11, H⟩ := H
  try dsimp only at H
  have HU12 := Aside0.mk H
  clear H
  have hnb13 := NB558_557.out
  have hnc13 := NB557_558.out
  obtain ⟨z14_0, z14_1⟩ := ca2 BK558
  go_upto_if 26 with (first | ((with_reducible refine gf 15 ?_); refine gc Tryd.func15 (some 24) (laws_szReq.calls _ A1_1 c1_1 _ _ _ _ (cb HR1_1) HC1_1.out A11.out) ?_; rintro e w15 ⟨rfl, hb⟩; refine ⟨_, rfl, ?_⟩; replace BK557 := b_ BK557 hb; replace BK558 := b_ BK558 hb; replace HB := hs hb; try clear hb))
  (try refine ap ?_)
  have H := HU12.out
  clear HU12
  replace H := ilt H
  rcases H with ⟨c16b0, H⟩ | ⟨c16b0, H⟩
  ·(first | rw [c16b0] | (simp only [i64_w, i32_w]; rw [c16b0]) | (simp only [c16b2, Bool.not_true, Bool.not_false]) | (simp only [c16b1, Bool.not_true, Bool.not_false]) | skip)
   obtain rfl := Option.some.inj H
   go_wp2
   go_ret
   exact ⟨rt, bw⟩
  ·(first | rw [c16b0] | (simp only [i64_w, i32_w]; rw [c16b0]) | (simp only [c16b2, Bool.not_true, Bool.not_false]) | (simp only [c16b1, Bool.not_true, Bool.not_false]) | skip)
   replace H := bn H
   obtain ⟨⟨t561, t562, t565, t568, t569, t570, t571, t572⟩, A17, H⟩ := H
   try dsimp only at H
   replace H := bn H
   obtain ⟨⟨t573, t574⟩, A18, H⟩ := H
   try dsimp only at H
   replace H := bn H
   obtain ⟨⟨t577, t578, t581, t584, t585, t586, t587, t588, t589⟩, A19, H⟩ := H
   try dsimp only at H
   replace H := bn H
   obtain ⟨⟨t591, t592, t595, t598, t599, t600, t601, t602⟩, A20, H⟩ := H
   try dsimp only at H
   replace H := bn H
   obtain ⟨⟨t604, t605⟩, A21, H⟩ := H
   try dsimp only at H
   replace H := bn H
   obtain ⟨⟨t609, t610, t613, t616, t617, t618, t619, t620, t621⟩, A22, H⟩ := H
   try dsimp only at H
   have HC23 := Aside0.mk H
   clear H
   try go_wp2
   replace BK557 := bd BK557
   replace BK558 := bd BK558
   replace HB := hd HB
   refine st 11 (fun w' => CA w' gb557 0 [.int .i64 a0_0, .slice A0_1 l0_1.length c0_1, .slice A0_2 l0_2.length c0_2, .int .u32 a0_3, .int .i64 a0_4, .int .i64 a0_5, .int .i64 a0_6, .int .u32 a0_7] ∧ CA w' gb558 0 [.int .i64 a1_0, .slice A1_1 l1_1.length c1_1]) [] ⟨cx BK557, cx BK558⟩ laws_FnExactWarpSubmit.tab8 laws_FnExactWarpSubmit.bits8 ?_; intro hHeld HT_ HW_
   generalize w15.drew = w24 at BK557 BK558 HB hHeld ⊢
   refine tk 0 28 (bl 11 1) ?_
   refine tk 2 30 (bl 11 5) ?_
   refine join_ (σ := Value × Value × Value × Value × Value × Nat) 2 (bl 11 511) (fun s_ => [(29, .agg #[.int .i64 t561, s_.1, s_.2.1, .int .u32 t568, .int .i64 t569, .int .i64 t570, .int .i64 t571, .int .u32 t572]), (31, .agg #[.int .i64 t573, s_.2.2.1]), (32, .tuple #[.agg #[.int .i64 t577, s_.2.2.2.1, s_.2.2.2.2.1, .int .u32 t584, .int .i64 t585, .int .i64 t586, .int .i64 t587, .int .u32 t588], .bool t589]), (6, .pointer (some ⟨s_.2.2.2.2.2, 0, none⟩)), (27, .tuple #[.agg #[.int .i64 t577, s_.2.2.2.1, s_.2.2.2.2.1, .int .u32 t584, .int .i64 t585, .int .i64 t586, .int .i64 t587, .int .u32 t588], .bool t589]), (33, .agg #[.int .i64 t577, s_.2.2.2.1, s_.2.2.2.2.1, .int .u32 t584, .int .i64 t585, .int .i64 t586, .int .i64 t587, .int .u32 t588]), (34, .bool t589)]) (fun s_ w' => (CA w' gb557 0 [.int .i64 a0_0, .slice A0_1 l0_1.length c0_1, .slice A0_2 l0_2.length c0_2, .int .u32 a0_3, .int .i64 a0_4, .int .i64 a0_5, .int .i64 a0_6, .int .u32 a0_7] ∧ CA w' gb558 0 [.int .i64 a1_0, .slice A1_1 l1_1.length c1_1]) ∧ (Kd.R (Kd.int .i64) 3 w' w.heap.size (fun k_ => some k_ ≠ (s_.2.1 : Value).ownBlock ∧ some k_ ≠ (s_.2.2.1 : Value).ownBlock ∧ some k_ ≠ (s_.2.2.2.1 : Value).ownBlock ∧ some k_ ≠ (s_.2.2.2.2.1 : Value).ownBlock) s_.1 t562) ∧ (Kd.R (Kd.int .i64) 3 w' w.heap.size (fun k_ => some k_ ≠ (s_.1 : Value).ownBlock ∧ some k_ ≠ (s_.2.2.1 : Value).ownBlock ∧ some k_ ≠ (s_.2.2.2.1 : Value).ownBlock ∧ some k_ ≠ (s_.2.2.2.2.1 : Value).ownBlock) s_.2.1 t565) ∧ (Kd.R (Kd.int .i64) 3 w' w.heap.size (fun k_ => some k_ ≠ (s_.1 : Value).ownBlock ∧ some k_ ≠ (s_.2.1 : Value).ownBlock ∧ some k_ ≠ (s_.2.2.2.1 : Value).ownBlock ∧ some k_ ≠ (s_.2.2.2.2.1 : Value).ownBlock) s_.2.2.1 t574) ∧ (Kd.R (Kd.int .i64) 3 w' w.heap.size (fun k_ => some k_ ≠ (s_.1 : Value).ownBlock ∧ some k_ ≠ (s_.2.1 : Value).ownBlock ∧ some k_ ≠ (s_.2.2.1 : Value).ownBlock ∧ some k_ ≠ (s_.2.2.2.2.1 : Value).ownBlock) s_.2.2.2.1 t578) ∧ (Kd.R (Kd.int .i64) 3 w' w.heap.size (fun k_ => some k_ ≠ (s_.1 : Value).ownBlock ∧ some k_ ≠ (s_.2.1 : Value).ownBlock ∧ some k_ ≠ (s_.2.2.1 : Value).ownBlock ∧ some k_ ≠ (s_.2.2.2.1 : Value).ownBlock) s_.2.2.2.2.1 t581) ∧ (w'.heap[gb557]? = some (.cells #[.int .i64 a0_0, .slice A0_1 l0_1.length c0_1, .slice A0_2 l0_2.length c0_2, .int .u32 a0_3, .int .i64 a0_4, .int .i64 a0_5, .int .i64 a0_6, .int .u32 a0_7] 25 (0, 0))) ∧ (w'.heap[gb558]? = some (.cells #[.int .i64 a1_0, .slice A1_1 l1_1.length c1_1] 35 (0, 0))) ∧ (w'.heap[s_.2.2.2.2.2]? = some (.cells #[.int .i64 0, .slice none 0 0, .slice none 0 0, .int .u32 0, .int .i64 0, .int .i64 0, .int .i64 0, .int .u32 0] 28 (0, 0))) ∧ (w.heap.size ≤ s_.2.2.2.2.2) ∧ (w.heap.size ≤ s_.2.2.2.2.2) ∧ (gb557 ≠ s_.2.2.2.2.2) ∧ (s_.2.2.2.2.2 ≠ gb557) ∧ (gb558 ≠ s_.2.2.2.2.2) ∧ (s_.2.2.2.2.2 ≠ gb558) ∧ (Below w.heap.size w w')) ?_ ?_
   rotate_left
   ·intro hCont
    refine two_ (i := 1) (j := 8) (Ni := some 29) (Nj := some 6) (bl 11 7) (bl 11 261) rfl rfl rfl rfl (two_of HT_.out kr) (by decide) (by decide) (fun K hK => ?_) (fun K hK => ?_)
    ·skip
     refine gq Tryd.func10 (laws_toWarp.calls _ _ A0_1 c0_1 _ A0_2 c0_2 _ _ _ _ _ _ _ _ _ _ _ _ _ _ _ (cb HR0_1) HC0_1.out (cb HR0_2) HC0_2.out A17.out) ?_
     rintro e w25 ⟨v563, v566, rfl, ho0, ho1, hb⟩
     refine ⟨_, rfl, ?_⟩
     have HO564 := Aside0.mk (Kd.R_lower ho0 (below_size bw))
     have HO567 := Aside0.mk (Kd.R_lower ho1 (below_size bw))
     replace BK557 := b_ BK557 hb
     replace BK558 := b_ BK558 hb
     replace HB := hs hb
     (try clear hb)
     (try clear hb2)
     (try clear hk)
     (try clear hi)
     (try clear ho0)
     (try clear ho1)
     refine hK.out _ _ ⟨cx BK557, cx BK558⟩ (fun hHeld => ?_)
     clear hK K
     refine nm ?_
     refine two_ (i := 3) (j := 8) (Ni := some 31) (Nj := some 6) (bl 11 15) (bl 11 263) rfl rfl rfl rfl (two_of HT_.out kr) (by decide) (by decide) (fun K hK => ?_) (fun K hK => ?_)
     ·skip
      refine gq Tryd.func17 (laws_toReq.calls _ _ A1_1 c1_1 _ _ _ _ (cb HR1_1) HC1_1.out A18.out) ?_
      rintro e w26 ⟨v575, rfl, ho0, hb⟩
      refine ⟨_, rfl, ?_⟩
      have HO576 := Aside0.mk (Kd.R_lower (Kd.R_new' (Kd.R_new' ho0 (Kd.R_lt (ro HO564))) (Kd.R_lt (ro HO567))) (below_size bw))
      replace HO564 := Aside0.mk (Kd.R_elder' (ro HO564) (Kd.R_base ho0) hb)
      replace HO567 := Aside0.mk (Kd.R_elder' (ro HO567) (Kd.R_base ho0) hb)
      replace BK557 := b_ BK557 hb
      replace BK558 := b_ BK558 hb
      replace HB := hs hb
      (try clear hb)
      (try clear hb2)
      (try clear hk)
      (try clear hi)
      (try clear ho0)
      obtain ⟨Ao27, co27, eo27⟩ := Kd.R_slice HO564.out
      (first | subst eo27 | (injection eo27 with f1_ f2_ f3_; have f4_ := f1_.symm; have f5_ := f3_.symm; clear f1_ f2_ f3_; subst f4_; subst f5_))
      obtain ⟨Ao28, co28, eo28⟩ := Kd.R_slice HO567.out
      (first | subst eo28 | (injection eo28 with f1_ f2_ f3_; have f4_ := f1_.symm; have f5_ := f3_.symm; clear f1_ f2_ f3_; subst f4_; subst f5_))
      obtain ⟨Ao29, co29, eo29⟩ := Kd.R_slice HO576.out
      (first | subst eo29 | (injection eo29 with f1_ f2_ f3_; have f4_ := f1_.symm; have f5_ := f3_.symm; clear f1_ f2_ f3_; subst f4_; subst f5_))
      refine hK.out _ _ ⟨cx BK557, cx BK558⟩ (fun hHeld => ?_)
      clear hK K
      refine nm ?_
      refine two_ (i := 4) (j := 8) (Ni := some 32) (Nj := some 6) (bl 11 31) (bl 11 271) rfl rfl rfl rfl (two_of HT_.out kr) (by decide) (by decide) (fun K hK => ?_) (fun K hK => ?_)
      ·skip
       refine gq Tryd.func16 (spec_WarpSubmit.calls _ _ Ao27 co27 _ Ao28 co28 _ _ _ _ _ _ _ Ao29 co29 _ _ _ _ _ _ _ _ _ _ _ (cr HO564) ((Kd.R_reads' HO564.out).2.1) (cr HO567) ((Kd.R_reads' HO567.out).2.1) (cr HO576) ((Kd.R_reads' HO576.out).2.1) A19.out) ?_
       rintro e w30 ⟨v579, v582, rfl, ho0, ho1, hb⟩
       refine ⟨_, rfl, ?_⟩
       have HO580 := Aside0.mk (Kd.R_lower (Kd.R_new' (Kd.R_new' (Kd.R_new' ho0 (Kd.R_lt (ro HO564))) (Kd.R_lt (ro HO567))) (Kd.R_lt (ro HO576))) (below_size bw))
       have HO583 := Aside0.mk (Kd.R_lower (Kd.R_new' (Kd.R_new' (Kd.R_new' ho1 (Kd.R_lt (ro HO564))) (Kd.R_lt (ro HO567))) (Kd.R_lt (ro HO576))) (below_size bw))
       replace HO564 := Aside0.mk (Kd.R_mono (Kd.R_told (Kd.R_told (Kd.R_old (ro HO564) hb) (Kd.R_base ho0)) (Kd.R_base ho1)) (fun _ h_ => h_.1))
       replace HO567 := Aside0.mk (Kd.R_mono (Kd.R_told (Kd.R_told (Kd.R_old (ro HO567) hb) (Kd.R_base ho0)) (Kd.R_base ho1)) (fun _ h_ => h_.1))
       replace HO576 := Aside0.mk (Kd.R_mono (Kd.R_told (Kd.R_told (Kd.R_old (ro HO576) hb) (Kd.R_base ho0)) (Kd.R_base ho1)) (fun _ h_ => h_.1))
       replace BK557 := b_ BK557 hb
       replace BK558 := b_ BK558 hb
       replace HB := hs hb
       (try clear hb)
       (try clear hb2)
       (try clear hk)
       (try clear hi)
       (try clear ho0)
       (try clear ho1)
       refine hK.out _ _ ⟨cx BK557, cx BK558⟩ (fun hHeld => ?_)
       clear hK K
       refine nm ?_
       refine pu 5 27 (bl 11 63) ?_
       refine pu 6 33 (bl 11 127) ?_
       refine pu 7 34 (bl 11 255) ?_
       refine on_ 8 (some 6) (bl 11 511) (fun K hK => ?_)
       refine box_step ?hg (N := 6) ?hd (cs := #[.int .i64 0, .slice none 0 0, .slice none 0 0, .int .u32 0, .int .i64 0, .int .i64 0, .int .i64 0, .int .u32 0]) (t := 28) ?hr ?_; (case hd => rfl); (case hg => rfl); (case hr => first | (go_simp; done) | (go_simp; rfl))
       intro gb590 hg w31 hbox hb
       replace HO564 := Aside0.mk (Kd.R_below (ro HO564) hb)
       replace HO567 := Aside0.mk (Kd.R_below (ro HO567) hb)
       replace HO576 := Aside0.mk (Kd.R_below (ro HO576) hb)
       replace HO580 := Aside0.mk (Kd.R_below (ro HO580) hb)
       replace HO583 := Aside0.mk (Kd.R_below (ro HO583) hb)
       have BK590 := Aside0.mk hbox
       have GW590 := bz hg
       have GE590 := bz hg
       have NB557_590 := nl BK557 hg
       have NB590_557 := ng BK557 hg
       replace BK557 := b_ BK557 hb
       have NB558_590 := nl BK558 hg
       have NB590_558 := ng BK558 hg
       replace BK558 := b_ BK558 hb
       replace HB := hs hb
       clear hb hbox hg
       refine hK.out _ _ ⟨cx BK557, cx BK558⟩ (fun hHeld => ?_)
       clear hK K
       refine nm ?_
       exact norm_ (by simp only [putAll, Act.put, List.setIfInBounds_toArray, List.set_cons_zero, List.set_cons_succ]) (hCont (.slice Ao27 t562.length co27, .slice Ao28 t565.length co28, .slice Ao29 t574.length co29, v579, v582, gb590) _ ⟨hHeld, (by (with_reducible repeat (first | apply Kd.R_alloc | apply Kd.R_drewN | apply Kd.R_drew)); exact Kd.R_mono HO564.out (fun _ hk => ⟨hk.1.1.1, ⟨hk.1.1.2, ⟨hk.1.2, hk.2⟩⟩⟩)), (by (with_reducible repeat (first | apply Kd.R_alloc | apply Kd.R_drewN | apply Kd.R_drew)); exact Kd.R_mono HO567.out (fun _ hk => ⟨hk.1.1.1, ⟨hk.1.1.2, ⟨hk.1.2, hk.2⟩⟩⟩)), (by (with_reducible repeat (first | apply Kd.R_alloc | apply Kd.R_drewN | apply Kd.R_drew)); exact Kd.R_mono HO576.out (fun _ hk => ⟨hk.1.1.1.2, ⟨hk.1.1.2, ⟨hk.1.2, hk.2⟩⟩⟩)), (by (with_reducible repeat (first | apply Kd.R_alloc | apply Kd.R_drewN | apply Kd.R_drew)); exact Kd.R_mono HO580.out (fun _ hk => ⟨hk.1.1.2, ⟨hk.1.2, ⟨hk.2, hk.1.1.1⟩⟩⟩)), (by (with_reducible repeat (first | apply Kd.R_alloc | apply Kd.R_drewN | apply Kd.R_drew)); exact Kd.R_mono HO583.out (fun _ hk => ⟨hk.1.1.2, ⟨hk.1.2, ⟨hk.2, hk.1.1.1⟩⟩⟩)), (bk BK557), (bk BK558), (bk BK590), GW590.out, GE590.out, NB557_590.out, NB590_557.out, NB558_590.out, NB590_558.out, bw⟩)
      ·skip
       refine box_step ?hg (N := 6) ?hd (cs := #[.int .i64 0, .slice none 0 0, .slice none 0 0, .int .u32 0, .int .i64 0, .int .i64 0, .int .i64 0, .int .u32 0]) (t := 28) ?hr ?_; (case hd => rfl); (case hg => rfl); (case hr => first | (go_simp; done) | (go_simp; rfl))
       intro gb590 hg w27 hbox hb
       replace HO564 := Aside0.mk (Kd.R_below (ro HO564) hb)
       replace HO567 := Aside0.mk (Kd.R_below (ro HO567) hb)
       replace HO576 := Aside0.mk (Kd.R_below (ro HO576) hb)
       have BK590 := Aside0.mk hbox
       have GW590 := bz hg
       have GE590 := bz hg
       have NB557_590 := nl BK557 hg
       have NB590_557 := ng BK557 hg
       replace BK557 := b_ BK557 hb
       have NB558_590 := nl BK558 hg
       have NB590_558 := ng BK558 hg
       replace BK558 := b_ BK558 hb
       replace HB := hs hb
       clear hb hbox hg
       obtain ⟨Ao28, co28, eo28⟩ := Kd.R_slice HO564.out
       (first | subst eo28 | (injection eo28 with f1_ f2_ f3_; have f4_ := f1_.symm; have f5_ := f3_.symm; clear f1_ f2_ f3_; subst f4_; subst f5_))
       obtain ⟨Ao29, co29, eo29⟩ := Kd.R_slice HO567.out
       (first | subst eo29 | (injection eo29 with f1_ f2_ f3_; have f4_ := f1_.symm; have f5_ := f3_.symm; clear f1_ f2_ f3_; subst f4_; subst f5_))
       obtain ⟨Ao30, co30, eo30⟩ := Kd.R_slice HO576.out
       (first | subst eo30 | (injection eo30 with f1_ f2_ f3_; have f4_ := f1_.symm; have f5_ := f3_.symm; clear f1_ f2_ f3_; subst f4_; subst f5_))
       refine hK.out _ _ ⟨cx BK557, cx BK558⟩ (fun hHeld => ?_)
       clear hK K
       refine nm ?_
       refine on_ 4 (some 32) (bl 11 287) (fun K hK => ?_)
       refine gq Tryd.func16 (spec_WarpSubmit.calls _ _ Ao28 co28 _ Ao29 co29 _ _ _ _ _ _ _ Ao30 co30 _ _ _ _ _ _ _ _ _ _ _ (cr HO564) ((Kd.R_reads' HO564.out).2.1) (cr HO567) ((Kd.R_reads' HO567.out).2.1) (cr HO576) ((Kd.R_reads' HO576.out).2.1) A19.out) ?_
       rintro e w31 ⟨v579, v582, rfl, ho0, ho1, hb⟩
       refine ⟨_, rfl, ?_⟩
       have HO580 := Aside0.mk (Kd.R_lower (Kd.R_new' (Kd.R_new' (Kd.R_new' ho0 (Kd.R_lt (ro HO564))) (Kd.R_lt (ro HO567))) (Kd.R_lt (ro HO576))) (below_size bw))
       have HO583 := Aside0.mk (Kd.R_lower (Kd.R_new' (Kd.R_new' (Kd.R_new' ho1 (Kd.R_lt (ro HO564))) (Kd.R_lt (ro HO567))) (Kd.R_lt (ro HO576))) (below_size bw))
       replace HO564 := Aside0.mk (Kd.R_mono (Kd.R_told (Kd.R_told (Kd.R_old (ro HO564) hb) (Kd.R_base ho0)) (Kd.R_base ho1)) (fun _ h_ => h_.1))
       replace HO567 := Aside0.mk (Kd.R_mono (Kd.R_told (Kd.R_told (Kd.R_old (ro HO567) hb) (Kd.R_base ho0)) (Kd.R_base ho1)) (fun _ h_ => h_.1))
       replace HO576 := Aside0.mk (Kd.R_mono (Kd.R_told (Kd.R_told (Kd.R_old (ro HO576) hb) (Kd.R_base ho0)) (Kd.R_base ho1)) (fun _ h_ => h_.1))
       replace BK557 := b_ BK557 hb
       replace BK558 := b_ BK558 hb
       replace BK590 := b_ BK590 hb
       replace HB := hs hb
       (try clear hb)
       (try clear hb2)
       (try clear hk)
       (try clear hi)
       (try clear ho0)
       (try clear ho1)
       refine hK.out _ _ ⟨cx BK557, cx BK558⟩ (fun hHeld => ?_)
       clear hK K
       refine nm ?_
       refine pu 5 27 (bl 11 319) ?_
       refine pu 6 33 (bl 11 383) ?_
       refine pu 7 34 (bl 11 511) ?_
       exact norm_ (by simp only [putAll, Act.put, List.setIfInBounds_toArray, List.set_cons_zero, List.set_cons_succ]) (hCont (.slice Ao28 t562.length co28, .slice Ao29 t565.length co29, .slice Ao30 t574.length co30, v579, v582, gb590) _ ⟨hHeld, (by (with_reducible repeat (first | apply Kd.R_alloc | apply Kd.R_drewN | apply Kd.R_drew)); exact Kd.R_mono HO564.out (fun _ hk => ⟨hk.1.1.1, ⟨hk.1.1.2, ⟨hk.1.2, hk.2⟩⟩⟩)), (by (with_reducible repeat (first | apply Kd.R_alloc | apply Kd.R_drewN | apply Kd.R_drew)); exact Kd.R_mono HO567.out (fun _ hk => ⟨hk.1.1.1, ⟨hk.1.1.2, ⟨hk.1.2, hk.2⟩⟩⟩)), (by (with_reducible repeat (first | apply Kd.R_alloc | apply Kd.R_drewN | apply Kd.R_drew)); exact Kd.R_mono HO576.out (fun _ hk => ⟨hk.1.1.1.2, ⟨hk.1.1.2, ⟨hk.1.2, hk.2⟩⟩⟩)), (by (with_reducible repeat (first | apply Kd.R_alloc | apply Kd.R_drewN | apply Kd.R_drew)); exact Kd.R_mono HO580.out (fun _ hk => ⟨hk.1.1.2, ⟨hk.1.2, ⟨hk.2, hk.1.1.1⟩⟩⟩)), (by (with_reducible repeat (first | apply Kd.R_alloc | apply Kd.R_drewN | apply Kd.R_drew)); exact Kd.R_mono HO583.out (fun _ hk => ⟨hk.1.1.2, ⟨hk.1.2, ⟨hk.2, hk.1.1.1⟩⟩⟩)), (bk BK557), (bk BK558), (bk BK590), GW590.out, GE590.out, NB557_590.out, NB590_557.out, NB558_590.out, NB590_558.out, bw⟩)
     ·skip
      refine box_step ?hg (N := 6) ?hd (cs := #[.int .i64 0, .slice none 0 0, .slice none 0 0, .int .u32 0, .int .i64 0, .int .i64 0, .int .i64 0, .int .u32 0]) (t := 28) ?hr ?_; (case hd => rfl); (case hg => rfl); (case hr => first | (go_simp; done) | (go_simp; rfl))
      intro gb590 hg w26 hbox hb
      replace HO564 := Aside0.mk (Kd.R_below (ro HO564) hb)
      replace HO567 := Aside0.mk (Kd.R_below (ro HO567) hb)
      have BK590 := Aside0.mk hbox
      have GW590 := bz hg
      have GE590 := bz hg
      have NB557_590 := nl BK557 hg
      have NB590_557 := ng BK557 hg
      replace BK557 := b_ BK557 hb
      have NB558_590 := nl BK558 hg
      have NB590_558 := ng BK558 hg
      replace BK558 := b_ BK558 hb
      replace HB := hs hb
      clear hb hbox hg
      refine hK.out _ _ ⟨cx BK557, cx BK558⟩ (fun hHeld => ?_)
      clear hK K
      refine nm ?_
      refine on_ 3 (some 31) (bl 11 271) (fun K hK => ?_)
      refine gq Tryd.func17 (laws_toReq.calls _ _ A1_1 c1_1 _ _ _ _ (cb HR1_1) HC1_1.out A18.out) ?_
      rintro e w27 ⟨v575, rfl, ho0, hb⟩
      refine ⟨_, rfl, ?_⟩
      have HO576 := Aside0.mk (Kd.R_lower (Kd.R_new' (Kd.R_new' ho0 (Kd.R_lt (ro HO564))) (Kd.R_lt (ro HO567))) (below_size bw))
      replace HO564 := Aside0.mk (Kd.R_elder' (ro HO564) (Kd.R_base ho0) hb)
      replace HO567 := Aside0.mk (Kd.R_elder' (ro HO567) (Kd.R_base ho0) hb)
      replace BK557 := b_ BK557 hb
      replace BK558 := b_ BK558 hb
      replace BK590 := b_ BK590 hb
      replace HB := hs hb
      (try clear hb)
      (try clear hb2)
      (try clear hk)
      (try clear hi)
      (try clear ho0)
      obtain ⟨Ao28, co28, eo28⟩ := Kd.R_slice HO564.out
      (first | subst eo28 | (injection eo28 with f1_ f2_ f3_; have f4_ := f1_.symm; have f5_ := f3_.symm; clear f1_ f2_ f3_; subst f4_; subst f5_))
      obtain ⟨Ao29, co29, eo29⟩ := Kd.R_slice HO567.out
      (first | subst eo29 | (injection eo29 with f1_ f2_ f3_; have f4_ := f1_.symm; have f5_ := f3_.symm; clear f1_ f2_ f3_; subst f4_; subst f5_))
      obtain ⟨Ao30, co30, eo30⟩ := Kd.R_slice HO576.out
      (first | subst eo30 | (injection eo30 with f1_ f2_ f3_; have f4_ := f1_.symm; have f5_ := f3_.symm; clear f1_ f2_ f3_; subst f4_; subst f5_))
      refine hK.out _ _ ⟨cx BK557, cx BK558⟩ (fun hHeld => ?_)
      clear hK K
      refine nm ?_
      refine on_ 4 (some 32) (bl 11 287) (fun K hK => ?_)
      refine gq Tryd.func16 (spec_WarpSubmit.calls _ _ Ao28 co28 _ Ao29 co29 _ _ _ _ _ _ _ Ao30 co30 _ _ _ _ _ _ _ _ _ _ _ (cr HO564) ((Kd.R_reads' HO564.out).2.1) (cr HO567) ((Kd.R_reads' HO567.out).2.1) (cr HO576) ((Kd.R_reads' HO576.out).2.1) A19.out) ?_
      rintro e w31 ⟨v579, v582, rfl, ho0, ho1, hb⟩
      refine ⟨_, rfl, ?_⟩
      have HO580 := Aside0.mk (Kd.R_lower (Kd.R_new' (Kd.R_new' (Kd.R_new' ho0 (Kd.R_lt (ro HO564))) (Kd.R_lt (ro HO567))) (Kd.R_lt (ro HO576))) (below_size bw))
      have HO583 := Aside0.mk (Kd.R_lower (Kd.R_new' (Kd.R_new' (Kd.R_new' ho1 (Kd.R_lt (ro HO564))) (Kd.R_lt (ro HO567))) (Kd.R_lt (ro HO576))) (below_size bw))
      replace HO564 := Aside0.mk (Kd.R_mono (Kd.R_told (Kd.R_told (Kd.R_old (ro HO564) hb) (Kd.R_base ho0)) (Kd.R_base ho1)) (fun _ h_ => h_.1))
      replace HO567 := Aside0.mk (Kd.R_mono (Kd.R_told (Kd.R_told (Kd.R_old (ro HO567) hb) (Kd.R_base ho0)) (Kd.R_base ho1)) (fun _ h_ => h_.1))
      replace HO576 := Aside0.mk (Kd.R_mono (Kd.R_told (Kd.R_told (Kd.R_old (ro HO576) hb) (Kd.R_base ho0)) (Kd.R_base ho1)) (fun _ h_ => h_.1))
      replace BK557 := b_ BK557 hb
      replace BK558 := b_ BK558 hb
      replace BK590 := b_ BK590 hb
      replace HB := hs hb
      (try clear hb)
      (try clear hb2)
      (try clear hk)
      (try clear hi)
      (try clear ho0)
      (try clear ho1)
      refine hK.out _ _ ⟨cx BK557, cx BK558⟩ (fun hHeld => ?_)
      clear hK K
      refine nm ?_
      refine pu 5 27 (bl 11 319) ?_
      refine pu 6 33 (bl 11 383) ?_
      refine pu 7 34 (bl 11 511) ?_
      exact norm_ (by simp only [putAll, Act.put, List.setIfInBounds_toArray, List.set_cons_zero, List.set_cons_succ]) (hCont (.slice Ao28 t562.length co28, .slice Ao29 t565.length co29, .slice Ao30 t574.length co30, v579, v582, gb590) _ ⟨hHeld, (by (with_reducible repeat (first | apply Kd.R_alloc | apply Kd.R_drewN | apply Kd.R_drew)); exact Kd.R_mono HO564.out (fun _ hk => ⟨hk.1.1.1, ⟨hk.1.1.2, ⟨hk.1.2, hk.2⟩⟩⟩)), (by (with_reducible repeat (first | apply Kd.R_alloc | apply Kd.R_drewN | apply Kd.R_drew)); exact Kd.R_mono HO567.out (fun _ hk => ⟨hk.1.1.1, ⟨hk.1.1.2, ⟨hk.1.2, hk.2⟩⟩⟩)), (by (with_reducible repeat (first | apply Kd.R_alloc | apply Kd.R_drewN | apply Kd.R_drew)); exact Kd.R_mono HO576.out (fun _ hk => ⟨hk.1.1.1.2, ⟨hk.1.1.2, ⟨hk.1.2, hk.2⟩⟩⟩)), (by (with_reducible repeat (first | apply Kd.R_alloc | apply Kd.R_drewN | apply Kd.R_drew)); exact Kd.R_mono HO580.out (fun _ hk => ⟨hk.1.1.2, ⟨hk.1.2, ⟨hk.2, hk.1.1.1⟩⟩⟩)), (by (with_reducible repeat (first | apply Kd.R_alloc | apply Kd.R_drewN | apply Kd.R_drew)); exact Kd.R_mono HO583.out (fun _ hk => ⟨hk.1.1.2, ⟨hk.1.2, ⟨hk.2, hk.1.1.1⟩⟩⟩)), (bk BK557), (bk BK558), (bk BK590), GW590.out, GE590.out, NB557_590.out, NB590_557.out, NB558_590.out, NB590_558.out, bw⟩)
    ·skip
     refine box_step ?hg (N := 6) ?hd (cs := #[.int .i64 0, .slice none 0 0, .slice none 0 0, .int .u32 0, .int .i64 0, .int .i64 0, .int .i64 0, .int .u32 0]) (t := 28) ?hr ?_; (case hd => rfl); (case hg => rfl); (case hr => first | (go_simp; done) | (go_simp; rfl))
     intro gb590 hg w25 hbox hb
     have BK590 := Aside0.mk hbox
     have GW590 := bz hg
     have GE590 := bz hg
     have NB557_590 := nl BK557 hg
     have NB590_557 := ng BK557 hg
     replace BK557 := b_ BK557 hb
     have NB558_590 := nl BK558 hg
     have NB590_558 := ng BK558 hg
     replace BK558 := b_ BK558 hb
     replace HB := hs hb
     clear hb hbox hg
     refine hK.out _ _ ⟨cx BK557, cx BK558⟩ (fun hHeld => ?_)
     clear hK K
     refine nm ?_
     refine on_ 1 (some 29) (bl 11 263) (fun K hK => ?_)
     refine gq Tryd.func10 (laws_toWarp.calls _ _ A0_1 c0_1 _ A0_2 c0_2 _ _ _ _ _ _ _ _ _ _ _ _ _ _ _ (cb HR0_1) HC0_1.out (cb HR0_2) HC0_2.out A17.out) ?_
     rintro e w26 ⟨v563, v566, rfl, ho0, ho1, hb⟩
     refine ⟨_, rfl, ?_⟩
     have HO564 := Aside0.mk (Kd.R_lower ho0 (below_size bw))
     have HO567 := Aside0.mk (Kd.R_lower ho1 (below_size bw))
     replace BK557 := b_ BK557 hb
     replace BK558 := b_ BK558 hb
     replace BK590 := b_ BK590 hb
     replace HB := hs hb
     (try clear hb)
     (try clear hb2)
     (try clear hk)
     (try clear hi)
     (try clear ho0)
     (try clear ho1)
     refine hK.out _ _ ⟨cx BK557, cx BK558⟩ (fun hHeld => ?_)
     clear hK K
     refine nm ?_
     refine on_ 3 (some 31) (bl 11 271) (fun K hK => ?_)
     refine gq Tryd.func17 (laws_toReq.calls _ _ A1_1 c1_1 _ _ _ _ (cb HR1_1) HC1_1.out A18.out) ?_
     rintro e w27 ⟨v575, rfl, ho0, hb⟩
     refine ⟨_, rfl, ?_⟩
     have HO576 := Aside0.mk (Kd.R_lower (Kd.R_new' (Kd.R_new' ho0 (Kd.R_lt (ro HO564))) (Kd.R_lt (ro HO567))) (below_size bw))
     replace HO564 := Aside0.mk (Kd.R_elder' (ro HO564) (Kd.R_base ho0) hb)
     replace HO567 := Aside0.mk (Kd.R_elder' (ro HO567) (Kd.R_base ho0) hb)
     replace BK557 := b_ BK557 hb
     replace BK558 := b_ BK558 hb
     replace BK590 := b_ BK590 hb
     replace HB := hs hb
     (try clear hb)
     (try clear hb2)
     (try clear hk)
     (try clear hi)
     (try clear ho0)
     obtain ⟨Ao28, co28, eo28⟩ := Kd.R_slice HO564.out
     (first | subst eo28 | (injection eo28 with f1_ f2_ f3_; have f4_ := f1_.symm; have f5_ := f3_.symm; clear f1_ f2_ f3_; subst f4_; subst f5_))
     obtain ⟨Ao29, co29, eo29⟩ := Kd.R_slice HO567.out
     (first | subst eo29 | (injection eo29 with f1_ f2_ f3_; have f4_ := f1_.symm; have f5_ := f3_.symm; clear f1_ f2_ f3_; subst f4_; subst f5_))
     obtain ⟨Ao30, co30, eo30⟩ := Kd.R_slice HO576.out
     (first | subst eo30 | (injection eo30 with f1_ f2_ f3_; have f4_ := f1_.symm; have f5_ := f3_.symm; clear f1_ f2_ f3_; subst f4_; subst f5_))
     refine hK.out _ _ ⟨cx BK557, cx BK558⟩ (fun hHeld => ?_)
     clear hK K
     refine nm ?_
     refine on_ 4 (some 32) (bl 11 287) (fun K hK => ?_)
     refine gq Tryd.func16 (spec_WarpSubmit.calls _ _ Ao28 co28 _ Ao29 co29 _ _ _ _ _ _ _ Ao30 co30 _ _ _ _ _ _ _ _ _ _ _ (cr HO564) ((Kd.R_reads' HO564.out).2.1) (cr HO567) ((Kd.R_reads' HO567.out).2.1) (cr HO576) ((Kd.R_reads' HO576.out).2.1) A19.out) ?_
     rintro e w31 ⟨v579, v582, rfl, ho0, ho1, hb⟩
     refine ⟨_, rfl, ?_⟩
     have HO580 := Aside0.mk (Kd.R_lower (Kd.R_new' (Kd.R_new' (Kd.R_new' ho0 (Kd.R_lt (ro HO564))) (Kd.R_lt (ro HO567))) (Kd.R_lt (ro HO576))) (below_size bw))
     have HO583 := Aside0.mk (Kd.R_lower (Kd.R_new' (Kd.R_new' (Kd.R_new' ho1 (Kd.R_lt (ro HO564))) (Kd.R_lt (ro HO567))) (Kd.R_lt (ro HO576))) (below_size bw))
     replace HO564 := Aside0.mk (Kd.R_mono (Kd.R_told (Kd.R_told (Kd.R_old (ro HO564) hb) (Kd.R_base ho0)) (Kd.R_base ho1)) (fun _ h_ => h_.1))
     replace HO567 := Aside0.mk (Kd.R_mono (Kd.R_told (Kd.R_told (Kd.R_old (ro HO567) hb) (Kd.R_base ho0)) (Kd.R_base ho1)) (fun _ h_ => h_.1))
     replace HO576 := Aside0.mk (Kd.R_mono (Kd.R_told (Kd.R_told (Kd.R_old (ro HO576) hb) (Kd.R_base ho0)) (Kd.R_base ho1)) (fun _ h_ => h_.1))
     replace BK557 := b_ BK557 hb
     replace BK558 := b_ BK558 hb
     replace BK590 := b_ BK590 hb
     replace HB := hs hb
     (try clear hb)
     (try clear hb2)
     (try clear hk)
     (try clear hi)
     (try clear ho0)
     (try clear ho1)
     refine hK.out _ _ ⟨cx BK557, cx BK558⟩ (fun hHeld => ?_)
     clear hK K
     refine nm ?_
     refine pu 5 27 (bl 11 319) ?_
     refine pu 6 33 (bl 11 383) ?_
     refine pu 7 34 (bl 11 511) ?_
     exact norm_ (by simp only [putAll, Act.put, List.setIfInBounds_toArray, List.set_cons_zero, List.set_cons_succ]) (hCont (.slice Ao28 t562.length co28, .slice Ao29 t565.length co29, .slice Ao30 t574.length co30, v579, v582, gb590) _ ⟨hHeld, (by (with_reducible repeat (first | apply Kd.R_alloc | apply Kd.R_drewN | apply Kd.R_drew)); exact Kd.R_mono HO564.out (fun _ hk => ⟨hk.1.1.1, ⟨hk.1.1.2, ⟨hk.1.2, hk.2⟩⟩⟩)), (by (with_reducible repeat (first | apply Kd.R_alloc | apply Kd.R_drewN | apply Kd.R_drew)); exact Kd.R_mono HO567.out (fun _ hk => ⟨hk.1.1.1, ⟨hk.1.1.2, ⟨hk.1.2, hk.2⟩⟩⟩)), (by (with_reducible repeat (first | apply Kd.R_alloc | apply Kd.R_drewN | apply Kd.R_drew)); exact Kd.R_mono HO576.out (fun _ hk => ⟨hk.1.1.1.2, ⟨hk.1.1.2, ⟨hk.1.2, hk.2⟩⟩⟩)), (by (with_reducible repeat (first | apply Kd.R_alloc | apply Kd.R_drewN | apply Kd.R_drew)); exact Kd.R_mono HO580.out (fun _ hk => ⟨hk.1.1.2, ⟨hk.1.2, ⟨hk.2, hk.1.1.1⟩⟩⟩)), (by (with_reducible repeat (first | apply Kd.R_alloc | apply Kd.R_drewN | apply Kd.R_drew)); exact Kd.R_mono HO583.out (fun _ hk => ⟨hk.1.1.2, ⟨hk.1.2, ⟨hk.2, hk.1.1.1⟩⟩⟩)), (bk BK557), (bk BK558), (bk BK590), GW590.out, GE590.out, NB557_590.out, NB590_557.out, NB558_590.out, NB590_558.out, bw⟩)
   rintro ⟨v563, v566, v575, v579, v582, gb590⟩ w32 ⟨hS_, h0_, h1_, h2_, h3_, h4_, h5_, h6_, h7_, h8_, h9_, h10_, h11_, h12_, h13_, h14_⟩
   have n0_ : Aside0 (Kd.R (Kd.int .i64) 3 w32 w.heap.size (fun k_ => some k_ ≠ (v566 : Value).ownBlock ∧ some k_ ≠ (v575 : Value).ownBlock ∧ some k_ ≠ (v579 : Value).ownBlock ∧ some k_ ≠ (v582 : Value).ownBlock) v563 t562) := ⟨h0_⟩
   have n1_ : Aside0 (Kd.R (Kd.int .i64) 3 w32 w.heap.size (fun k_ => some k_ ≠ (v563 : Value).ownBlock ∧ some k_ ≠ (v575 : Value).ownBlock ∧ some k_ ≠ (v579 : Value).ownBlock ∧ some k_ ≠ (v582 : Value).ownBlock) v566 t565) := ⟨h1_⟩
   have n2_ : Aside0 (Kd.R (Kd.int .i64) 3 w32 w.heap.size (fun k_ => some k_ ≠ (v563 : Value).ownBlock ∧ some k_ ≠ (v566 : Value).ownBlock ∧ some k_ ≠ (v579 : Value).ownBlock ∧ some k_ ≠ (v582 : Value).ownBlock) v575 t574) := ⟨h2_⟩
   have n3_ : Aside0 (Kd.R (Kd.int .i64) 3 w32 w.heap.size (fun k_ => some k_ ≠ (v563 : Value).ownBlock ∧ some k_ ≠ (v566 : Value).ownBlock ∧ some k_ ≠ (v575 : Value).ownBlock ∧ some k_ ≠ (v582 : Value).ownBlock) v579 t578) := ⟨h3_⟩
   have n4_ : Aside0 (Kd.R (Kd.int .i64) 3 w32 w.heap.size (fun k_ => some k_ ≠ (v563 : Value).ownBlock ∧ some k_ ≠ (v566 : Value).ownBlock ∧ some k_ ≠ (v575 : Value).ownBlock ∧ some k_ ≠ (v579 : Value).ownBlock) v582 t581) := ⟨h4_⟩
   have n5_ : Aside0 (w32.heap[gb557]? = some (.cells #[.int .i64 a0_0, .slice A0_1 l0_1.length c0_1, .slice A0_2 l0_2.length c0_2, .int .u32 a0_3, .int .i64 a0_4, .int .i64 a0_5, .int .i64 a0_6, .int .u32 a0_7] 25 (0, 0))) := ⟨h5_⟩
   have n6_ : Aside0 (w32.heap[gb558]? = some (.cells #[.int .i64 a1_0, .slice A1_1 l1_1.length c1_1] 35 (0, 0))) := ⟨h6_⟩
   have n7_ : Aside0 (w32.heap[gb590]? = some (.cells #[.int .i64 0, .slice none 0 0, .slice none 0 0, .int .u32 0, .int .i64 0, .int .i64 0, .int .i64 0, .int .u32 0] 28 (0, 0))) := ⟨h7_⟩
   have n8_ : Aside0 (w.heap.size ≤ gb590) := ⟨h8_⟩
   have n9_ : Aside0 (w.heap.size ≤ gb590) := ⟨h9_⟩
   have n10_ : Aside0 (gb557 ≠ gb590) := ⟨h10_⟩
   have n11_ : Aside0 (gb590 ≠ gb557) := ⟨h11_⟩
   have n12_ : Aside0 (gb558 ≠ gb590) := ⟨h12_⟩
   have n13_ : Aside0 (gb590 ≠ gb558) := ⟨h13_⟩
   have n14_ : Aside0 (Below w.heap.size w w32) := ⟨h14_⟩
   clear BK557
   clear BK558
   clear HB
   clear h0_ h1_ h2_ h3_ h4_ h5_ h6_ h7_ h8_ h9_ h10_ h11_ h12_ h13_ h14_
   have HO564 := n0_
   have HO567 := n1_
   have HO576 := n2_
   have HO580 := n3_
   have HO583 := n4_
   have BK557 := n5_
   have BK558 := n6_
   have BK590 := n7_
   have GW590 := n8_
   have GE590 := n9_
   have NB557_590 := n10_
   have NB590_557 := n11_
   have NB558_590 := n12_
   have NB590_558 := n13_
   have HB := n14_
   clear n0_ n1_ n2_ n3_ n4_ n5_ n6_ n7_ n8_ n9_ n10_ n11_ n12_ n13_ n14_
   have hHeld := hS_
   obtain ⟨Ao34, co34, eo34⟩ := Kd.R_slice HO580.out
   (first | subst eo34 | (injection eo34 with f1_ f2_ f3_; have f4_ := f1_.symm; have f5_ := f3_.symm; clear f1_ f2_ f3_; subst f4_; subst f5_))
   obtain ⟨Ao36, co36, eo36⟩ := Kd.R_slice HO583.out
   (first | subst eo36 | (injection eo36 with f1_ f2_ f3_; have f4_ := f1_.symm; have f5_ := f3_.symm; clear f1_ f2_ f3_; subst f4_; subst f5_))
   refine norm_ (a' := ?_) ?_ ?_
   rotate_left
   ·simp only [putAll, Act.put, List.setIfInBounds_toArray, List.set_cons_zero, List.set_cons_succ]
    rfl
   refine on_ 9 (none) (bl 11 1023) (fun K hK => ?_)
   have hs33 : w32.cell? ⟨gb590, 0, none⟩ = some (.int .i64 0) := (blk_cell BK590.out 0).trans rfl
   have hfs33 := blk_frozen BK590.out 0
   have hns33_0 := NB557_590.out
   have hns33_1 := NB558_590.out
   have hms33_0 := NB590_557.out
   have hms33_1 := NB590_558.out
   have hs35 : w32.cell? ⟨gb590, 1, none⟩ = some (.slice none 0 0) := (blk_cell BK590.out 1).trans rfl
   have hfs35 := blk_frozen BK590.out 1
   have hs37 : w32.cell? ⟨gb590, 2, none⟩ = some (.slice none 0 0) := (blk_cell BK590.out 2).trans rfl
   have hfs37 := blk_frozen BK590.out 2
   have hs38 : w32.cell? ⟨gb590, 3, none⟩ = some (.int .u32 0) := (blk_cell BK590.out 3).trans rfl
   have hfs38 := blk_frozen BK590.out 3
   have hs39 : w32.cell? ⟨gb590, 4, none⟩ = some (.int .i64 0) := (blk_cell BK590.out 4).trans rfl
   have hfs39 := blk_frozen BK590.out 4
   have hs40 : w32.cell? ⟨gb590, 5, none⟩ = some (.int .i64 0) := (blk_cell BK590.out 5).trans rfl
   have hfs40 := blk_frozen BK590.out 5
   have hs41 : w32.cell? ⟨gb590, 6, none⟩ = some (.int .i64 0) := (blk_cell BK590.out 6).trans rfl
   have hfs41 := blk_frozen BK590.out 6
   have hs42 : w32.cell? ⟨gb590, 7, none⟩ = some (.int .u32 0) := (blk_cell BK590.out 7).trans rfl
   have hfs42 := blk_frozen BK590.out 7
   refine skip_ (w1 := ?_) (by rfl) rfl ?_ ?_
   rotate_left
   ·go_simp
    rfl
   refine hK.out _ _ ⟨cf NB557_590 (hHeld.1), cf NB558_590 (hHeld.2)⟩ (fun hHeld => ?_)
   clear hK K
   refine pu 10 7 (bl 11 2047) ?_
   refine dn ?_ _
   have hnb44 := NB557_590.out
   have hnc44 := NB590_557.out
   obtain ⟨z45_0, z45_1, z45_2, z45_3, z45_4, z45_5, z45_6, z45_7⟩ := ca8 BK557
   go_upto_region 12 with (first | ((with_reducible refine gf 10 ?_); refine gc Tryd.func10 (some 36) (laws_toWarp.calls _ _ A0_1 c0_1 _ A0_2 c0_2 _ _ _ _ _ _ _ _ _ _ _ _ _ _ _ (Kd.C_below HR0_1.out bw) HC0_1.out (Kd.C_below HR0_2.out bw) HC0_2.out A20.out) ?_; rintro e w46 ⟨v593, v596, rfl, ho0, ho1, hb⟩; refine ⟨_, rfl, ?_⟩; have HO594 := Aside0.mk (Kd.R_lower (Kd.R_new' (Kd.R_new' (Kd.R_new' (Kd.R_new' (Kd.R_new' ho0 (Kd.R_lt (rx HO564 BK590))) (Kd.R_lt (rx HO567 BK590))) (Kd.R_lt (rx HO576 BK590))) (Kd.R_lt (rx HO580 BK590))) (Kd.R_lt (rx HO583 BK590))) (below_size bw)); have HO597 := Aside0.mk (Kd.R_lower (Kd.R_new' (Kd.R_new' (Kd.R_new' (Kd.R_new' (Kd.R_new' ho1 (Kd.R_lt (rx HO564 BK590))) (Kd.R_lt (rx HO567 BK590))) (Kd.R_lt (rx HO576 BK590))) (Kd.R_lt (rx HO580 BK590))) (Kd.R_lt (rx HO583 BK590))) (below_size bw)); replace HO564 := Aside0.mk (Kd.R_mono (Kd.R_told (Kd.R_told (Kd.R_old (rx HO564 BK590) hb) (Kd.R_base ho0)) (Kd.R_base ho1)) (fun _ h_ => h_.1)); replace HO567 := Aside0.mk (Kd.R_mono (Kd.R_told (Kd.R_told (Kd.R_old (rx HO567 BK590) hb) (Kd.R_base ho0)) (Kd.R_base ho1)) (fun _ h_ => h_.1)); replace HO576 := Aside0.mk (Kd.R_mono (Kd.R_told (Kd.R_told (Kd.R_old (rx HO576 BK590) hb) (Kd.R_base ho0)) (Kd.R_base ho1)) (fun _ h_ => h_.1)); replace HO580 := Aside0.mk (Kd.R_mono (Kd.R_told (Kd.R_told (Kd.R_old (rx HO580 BK590) hb) (Kd.R_base ho0)) (Kd.R_base ho1)) (fun _ h_ => h_.1)); replace HO583 := Aside0.mk (Kd.R_mono (Kd.R_told (Kd.R_told (Kd.R_old (rx HO583 BK590) hb) (Kd.R_base ho0)) (Kd.R_base ho1)) (fun _ h_ => h_.1)); replace BK557 := b_ BK557 hb; replace BK558 := b_ BK558 hb; replace BK590 := bq BK590 #[.int .i64 t577, .slice Ao34 t578.length co34, .slice Ao36 t581.length co36, .int .u32 t584, .int .i64 t585, .int .i64 t586, .int .i64 t587, .int .u32 t588] hb; replace HB := hs hb; try clear hb; (try clear ho0); (try clear ho1)) | ((with_reducible refine gd 8 ?_); refine bx 8 28 #[.int .i64 0, .slice none 0 0, .slice none 0 0, .int .u32 0, .int .i64 0, .int .i64 0, .int .i64 0, .int .u32 0] ?_; clear HB; intro gb603 w47 hg BK603 hb GE603 HB; replace HO564 := Aside0.mk (Kd.R_below (ro HO564) hb); replace HO567 := Aside0.mk (Kd.R_below (ro HO567) hb); replace HO576 := Aside0.mk (Kd.R_below (ro HO576) hb); replace HO580 := Aside0.mk (Kd.R_below (ro HO580) hb); replace HO583 := Aside0.mk (Kd.R_below (ro HO583) hb); replace HO594 := Aside0.mk (Kd.R_below (ro HO594) hb); replace HO597 := Aside0.mk (Kd.R_below (ro HO597) hb); have NB557_603 := nl BK557 hg; have NB603_557 := ng BK557 hg; replace BK557 := b_ BK557 hb; have NB558_603 := nl BK558 hg; have NB603_558 := ng BK558 hg; replace BK558 := b_ BK558 hb; have NB590_603 := nl BK590 hg; have NB603_590 := ng BK590 hg; replace BK590 := b_ BK590 hb; clear hb hg; have hnb48 := NB603_557.out; have hnc48 := NB557_603.out; have hnb49 := NB603_558.out; have hnc49 := NB558_603.out; have hnb50 := NB603_590.out; have hnc50 := NB590_603.out; obtain ⟨z51_0, z51_1, z51_2, z51_3, z51_4, z51_5, z51_6, z51_7⟩ := ca8 BK603; obtain ⟨f51_0, f51_1, f51_2, f51_3, f51_4, f51_5, f51_6, f51_7⟩ := fa8 BK603; obtain ⟨Ao52, co52, eo52⟩ := Kd.R_slice HO594.out; subst eo52; obtain ⟨Ao53, co53, eo53⟩ := Kd.R_slice HO597.out; subst eo53; have hnb54 := NB558_590.out; have hnc54 := NB590_558.out; obtain ⟨z55_0, z55_1⟩ := ca2 BK558; obtain ⟨f55_0, f55_1⟩ := fa2 BK558) | ((with_reducible refine gf 17 ?_); refine gc Tryd.func17 (some 38) (laws_toReq.calls _ _ A1_1 c1_1 _ _ _ _ (Kd.C_below HR1_1.out bw) HC1_1.out A21.out) ?_; rintro e w56 ⟨v606, rfl, ho0, hb⟩; refine ⟨_, rfl, ?_⟩; have HO607 := Aside0.mk (Kd.R_lower (Kd.R_new' (Kd.R_new' (Kd.R_new' (Kd.R_new' (Kd.R_new' (Kd.R_new' (Kd.R_new' ho0 (Kd.R_lt (rx HO564 BK603))) (Kd.R_lt (rx HO567 BK603))) (Kd.R_lt (rx HO576 BK603))) (Kd.R_lt (rx HO580 BK603))) (Kd.R_lt (rx HO583 BK603))) (Kd.R_lt (rx HO594 BK603))) (Kd.R_lt (rx HO597 BK603))) (below_size bw)); replace HO564 := Aside0.mk (Kd.R_elder' (rx HO564 BK603) (Kd.R_base ho0) hb); replace HO567 := Aside0.mk (Kd.R_elder' (rx HO567 BK603) (Kd.R_base ho0) hb); replace HO576 := Aside0.mk (Kd.R_elder' (rx HO576 BK603) (Kd.R_base ho0) hb); replace HO580 := Aside0.mk (Kd.R_elder' (rx HO580 BK603) (Kd.R_base ho0) hb); replace HO583 := Aside0.mk (Kd.R_elder' (rx HO583 BK603) (Kd.R_base ho0) hb); replace HO594 := Aside0.mk (Kd.R_elder' (rx HO594 BK603) (Kd.R_base ho0) hb); replace HO597 := Aside0.mk (Kd.R_elder' (rx HO597 BK603) (Kd.R_base ho0) hb); replace BK557 := b_ BK557 hb; replace BK558 := b_ BK558 hb; replace BK590 := b_ BK590 hb; replace BK603 := bq BK603 #[.int .i64 t591, .slice Ao52 t592.length co52, .slice Ao53 t595.length co53, .int .u32 t598, .int .i64 t599, .int .i64 t600, .int .i64 t601, .int .u32 t602] hb; replace HB := hs hb; try clear hb; (try clear ho0)) | ((with_reducible refine gd 9 ?_); refine bx 9 39 #[.int .i64 0, .slice none 0 0] ?_; clear HB; intro gb608 w57 hg BK608 hb GE608 HB; replace HO564 := Aside0.mk (Kd.R_below (ro HO564) hb); replace HO567 := Aside0.mk (Kd.R_below (ro HO567) hb); replace HO576 := Aside0.mk (Kd.R_below (ro HO576) hb); replace HO580 := Aside0.mk (Kd.R_below (ro HO580) hb); replace HO583 := Aside0.mk (Kd.R_below (ro HO583) hb); replace HO594 := Aside0.mk (Kd.R_below (ro HO594) hb); replace HO597 := Aside0.mk (Kd.R_below (ro HO597) hb); replace HO607 := Aside0.mk (Kd.R_below (ro HO607) hb); have NB557_608 := nl BK557 hg; have NB608_557 := ng BK557 hg; replace BK557 := b_ BK557 hb; have NB558_608 := nl BK558 hg; have NB608_558 := ng BK558 hg; replace BK558 := b_ BK558 hb; have NB590_608 := nl BK590 hg; have NB608_590 := ng BK590 hg; replace BK590 := b_ BK590 hb; have NB603_608 := nl BK603 hg; have NB608_603 := ng BK603 hg; replace BK603 := b_ BK603 hb; clear hb hg; have hnb58 := NB608_557.out; have hnc58 := NB557_608.out; have hnb59 := NB608_558.out; have hnc59 := NB558_608.out; have hnb60 := NB608_590.out; have hnc60 := NB590_608.out; have hnb61 := NB608_603.out; have hnc61 := NB603_608.out; obtain ⟨z62_0, z62_1⟩ := ca2 BK608; obtain ⟨f62_0, f62_1⟩ := fa2 BK608; obtain ⟨Ao63, co63, eo63⟩ := Kd.R_slice HO607.out; subst eo63; obtain ⟨z64_0, z64_1, z64_2, z64_3, z64_4, z64_5, z64_6, z64_7⟩ := ca8 BK603; obtain ⟨f64_0, f64_1, f64_2, f64_3, f64_4, f64_5, f64_6, f64_7⟩ := fa8 BK603) | ((with_reducible refine gf 18 ?_); refine gl 18 Tryd.func18 (some 42) #[.agg #[.int .i64 t591, .slice Ao52 t592.length co52, .slice Ao53 t595.length co53, .int .u32 t598, .int .i64 t599, .int .i64 t600, .int .i64 t601, .int .u32 t602], .agg #[.int .i64 t604, .slice Ao63 t605.length co63]] ?_; (with_reducible refine (impl_WarpSubmit.calls _ _ _ _ _ _ _ _ _ _ _ _ _ _ _ _ _ _ _ _ _ _ _ _ _ _ _ ?side1 ?side2 ?side3 ?side4 ?side5 ?side6 A22.out (hT.below bw)).mono ?_); (case side1 => refine (Kd.R_reads' (e := 3) (base := w.heap.size) (ok := fun k_ => ((((((some k_ ≠ (.slice Ao53 t595.length co53 : Value).ownBlock ∧ some k_ ≠ (v563 : Value).ownBlock) ∧ some k_ ≠ (v566 : Value).ownBlock) ∧ some k_ ≠ (v575 : Value).ownBlock) ∧ some k_ ≠ (.slice Ao34 t578.length co34 : Value).ownBlock) ∧ some k_ ≠ (.slice Ao36 t581.length co36 : Value).ownBlock) ∧ some k_ ≠ (.slice Ao63 t605.length co63 : Value).ownBlock)) (n := t592.length) (c := co52) ?_).2.2; exact (rx HO594 BK608)); (case side2 => exact (Kd.R_reads' HO594.out).2.1); (case side3 => refine (Kd.R_reads' (e := 3) (base := w.heap.size) (ok := fun k_ => ((((((some k_ ≠ (.slice Ao52 t592.length co52 : Value).ownBlock ∧ some k_ ≠ (v563 : Value).ownBlock) ∧ some k_ ≠ (v566 : Value).ownBlock) ∧ some k_ ≠ (v575 : Value).ownBlock) ∧ some k_ ≠ (.slice Ao34 t578.length co34 : Value).ownBlock) ∧ some k_ ≠ (.slice Ao36 t581.length co36 : Value).ownBlock) ∧ some k_ ≠ (.slice Ao63 t605.length co63 : Value).ownBlock)) (n := t595.length) (c := co53) ?_).2.2; exact (rx HO597 BK608)); (case side4 => exact (Kd.R_reads' HO597.out).2.1); (case side5 => refine (Kd.R_reads' (e := 3) (base := w.heap.size) (ok := fun k_ => (((((((True ∧ some k_ ≠ (v563 : Value).ownBlock) ∧ some k_ ≠ (v566 : Value).ownBlock) ∧ some k_ ≠ (v575 : Value).ownBlock) ∧ some k_ ≠ (.slice Ao34 t578.length co34 : Value).ownBlock) ∧ some k_ ≠ (.slice Ao36 t581.length co36 : Value).ownBlock) ∧ some k_ ≠ (.slice Ao52 t592.length co52 : Value).ownBlock) ∧ some k_ ≠ (.slice Ao53 t595.length co53 : Value).ownBlock)) (n := t605.length) (c := co63) ?_).2.2; exact (rx HO607 BK608)); (case side6 => exact (Kd.R_reads' HO607.out).2.1); rintro e w65 ⟨v611, v614, rfl, ho0, ho1, hb⟩; refine ⟨_, rfl, ?_⟩; have HO612 := Aside0.mk (Kd.R_lower (Kd.R_new' (Kd.R_new' (Kd.R_new' (Kd.R_new' (Kd.R_new' (Kd.R_new' (Kd.R_new' (Kd.R_new' ho0 (Kd.R_lt (rx HO564 BK608))) (Kd.R_lt (rx HO567 BK608))) (Kd.R_lt (rx HO576 BK608))) (Kd.R_lt (rx HO580 BK608))) (Kd.R_lt (rx HO583 BK608))) (Kd.R_lt (rx HO594 BK608))) (Kd.R_lt (rx HO597 BK608))) (Kd.R_lt (rx HO607 BK608))) (below_size bw)); have HO615 := Aside0.mk (Kd.R_lower (Kd.R_new' (Kd.R_new' (Kd.R_new' (Kd.R_new' (Kd.R_new' (Kd.R_new' (Kd.R_new' (Kd.R_new' ho1 (Kd.R_lt (rx HO564 BK608))) (Kd.R_lt (rx HO567 BK608))) (Kd.R_lt (rx HO576 BK608))) (Kd.R_lt (rx HO580 BK608))) (Kd.R_lt (rx HO583 BK608))) (Kd.R_lt (rx HO594 BK608))) (Kd.R_lt (rx HO597 BK608))) (Kd.R_lt (rx HO607 BK608))) (below_size bw)); replace HO564 := Aside0.mk (Kd.R_mono (Kd.R_told (Kd.R_told (Kd.R_old (rx HO564 BK608) hb) (Kd.R_base ho0)) (Kd.R_base ho1)) (fun _ h_ => h_.1)); replace HO567 := Aside0.mk (Kd.R_mono (Kd.R_told (Kd.R_told (Kd.R_old (rx HO567 BK608) hb) (Kd.R_base ho0)) (Kd.R_base ho1)) (fun _ h_ => h_.1)); replace HO576 := Aside0.mk (Kd.R_mono (Kd.R_told (Kd.R_told (Kd.R_old (rx HO576 BK608) hb) (Kd.R_base ho0)) (Kd.R_base ho1)) (fun _ h_ => h_.1)); replace HO580 := Aside0.mk (Kd.R_mono (Kd.R_told (Kd.R_told (Kd.R_old (rx HO580 BK608) hb) (Kd.R_base ho0)) (Kd.R_base ho1)) (fun _ h_ => h_.1)); replace HO583 := Aside0.mk (Kd.R_mono (Kd.R_told (Kd.R_told (Kd.R_old (rx HO583 BK608) hb) (Kd.R_base ho0)) (Kd.R_base ho1)) (fun _ h_ => h_.1)); replace HO594 := Aside0.mk (Kd.R_mono (Kd.R_told (Kd.R_told (Kd.R_old (rx HO594 BK608) hb) (Kd.R_base ho0)) (Kd.R_base ho1)) (fun _ h_ => h_.1)); replace HO597 := Aside0.mk (Kd.R_mono (Kd.R_told (Kd.R_told (Kd.R_old (rx HO597 BK608) hb) (Kd.R_base ho0)) (Kd.R_base ho1)) (fun _ h_ => h_.1)); replace HO607 := Aside0.mk (Kd.R_mono (Kd.R_told (Kd.R_told (Kd.R_old (rx HO607 BK608) hb) (Kd.R_base ho0)) (Kd.R_base ho1)) (fun _ h_ => h_.1)); replace BK557 := b_ BK557 hb; replace BK558 := b_ BK558 hb; replace BK590 := b_ BK590 hb; replace BK603 := b_ BK603 hb; replace BK608 := bq BK608 #[.int .i64 t604, .slice Ao63 t605.length co63] hb; replace HB := hs hb; try clear hb; (try clear ho0); (try clear ho1)) | ((with_reducible refine gd 10 ?_); refine bx 10 28 #[.int .i64 0, .slice none 0 0, .slice none 0 0, .int .u32 0, .int .i64 0, .int .i64 0, .int .i64 0, .int .u32 0] ?_; clear HB; intro gb622 w66 hg BK622 hb GE622 HB; replace HO564 := Aside0.mk (Kd.R_below (ro HO564) hb); replace HO567 := Aside0.mk (Kd.R_below (ro HO567) hb); replace HO576 := Aside0.mk (Kd.R_below (ro HO576) hb); replace HO580 := Aside0.mk (Kd.R_below (ro HO580) hb); replace HO583 := Aside0.mk (Kd.R_below (ro HO583) hb); replace HO594 := Aside0.mk (Kd.R_below (ro HO594) hb); replace HO597 := Aside0.mk (Kd.R_below (ro HO597) hb); replace HO607 := Aside0.mk (Kd.R_below (ro HO607) hb); replace HO612 := Aside0.mk (Kd.R_below (ro HO612) hb); replace HO615 := Aside0.mk (Kd.R_below (ro HO615) hb); have NB557_622 := nl BK557 hg; have NB622_557 := ng BK557 hg; replace BK557 := b_ BK557 hb; have NB558_622 := nl BK558 hg; have NB622_558 := ng BK558 hg; replace BK558 := b_ BK558 hb; have NB590_622 := nl BK590 hg; have NB622_590 := ng BK590 hg; replace BK590 := b_ BK590 hb; have NB603_622 := nl BK603 hg; have NB622_603 := ng BK603 hg; replace BK603 := b_ BK603 hb; have NB608_622 := nl BK608 hg; have NB622_608 := ng BK608 hg; replace BK608 := b_ BK608 hb; clear hb hg; have hnb67 := NB622_557.out; have hnc67 := NB557_622.out; have hnb68 := NB622_558.out; have hnc68 := NB558_622.out; have hnb69 := NB622_590.out; have hnc69 := NB590_622.out; have hnb70 := NB622_603.out; have hnc70 := NB603_622.out; have hnb71 := NB622_608.out; have hnc71 := NB608_622.out; obtain ⟨z72_0, z72_1, z72_2, z72_3, z72_4, z72_5, z72_6, z72_7⟩ := ca8 BK622; obtain ⟨f72_0, f72_1, f72_2, f72_3, f72_4, f72_5, f72_6, f72_7⟩ := fa8 BK622; obtain ⟨Ao73, co73, eo73⟩ := Kd.R_slice HO612.out; subst eo73; obtain ⟨Ao74, co74, eo74⟩ := Kd.R_slice HO615.out; subst eo74))
   obtain ⟨wz, hwz⟩ : ∃ z_ : World, ((((((((w66.setCell ⟨gb622, 0, none⟩ (.int .i64 t609)).setCell ⟨gb622, 1, none⟩ (.slice Ao73 t610.length co73)).setCell ⟨gb622, 2, none⟩ (.slice Ao74 t613.length co74)).setCell ⟨gb622, 3, none⟩ (.int .u32 t616)).setCell ⟨gb622, 4, none⟩ (.int .i64 t617)).setCell ⟨gb622, 5, none⟩ (.int .i64 t618)).setCell ⟨gb622, 6, none⟩ (.int .i64 t619)).setCell ⟨gb622, 7, none⟩ (.int .u32 t620)) = z_ := ⟨_, rfl⟩
   replace HO612 := rz hwz HO612 BK622
   replace HO615 := rz hwz HO615 BK622
   replace HO580 := rz hwz HO580 BK622
   replace HO583 := rz hwz HO583 BK622
   replace HO564 := rz hwz HO564 BK622
   replace HO567 := rz hwz HO567 BK622
   replace HO576 := rz hwz HO576 BK622
   replace HO594 := rz hwz HO594 BK622
   replace HO597 := rz hwz HO597 BK622
   replace HO607 := rz hwz HO607 BK622
   replace BK557 := rb hwz BK557
   replace BK558 := rb hwz BK558
   replace BK590 := rb hwz BK590
   replace BK603 := rb hwz BK603
   replace BK608 := rb hwz BK608
   replace BK622 := rp hwz BK622 #[.int .i64 t609, .slice Ao73 t610.length co73, .slice Ao74 t613.length co74, .int .u32 t616, .int .i64 t617, .int .i64 t618, .int .i64 t619, .int .u32 t620]
   replace HB := rh hwz
   rw [hwz]
   clear hwz
   (try refine ap ?_)
   go_cut [53] (fun v53 wc => ∃ (kq : Nat) (x53_22 : Bool), v53 = .bool x53_22 ∧ Aside0 (laws_FnExactWarpSubmit.j0 kq t589 t621 x53_22 a0_0 l0_1 l0_2 a0_3 a0_4 a0_5 a0_6 a0_7 a1_0 l1_1 t577 t578 t581 t584 t585 t586 t587 t588 t591 t592 t595 t598 t599 t600 t601 t602 t604 t605 t609 t610 t613 t616 t617 t618 t619 t620 = some r) ∧ Aside0 (kq ≤ k) ∧ Aside0 (Kd.R (Kd.int .i64) 3 wc w.heap.size (fun k_ => some k_ ≠ ((.slice Ao36 t581.length co36) : Value).ownBlock ∧ some k_ ≠ ((.slice Ao52 t592.length co52) : Value).ownBlock ∧ some k_ ≠ ((.slice Ao53 t595.length co53) : Value).ownBlock ∧ some k_ ≠ ((.slice Ao63 t605.length co63) : Value).ownBlock ∧ some k_ ≠ ((.slice Ao73 t610.length co73) : Value).ownBlock ∧ some k_ ≠ ((.slice Ao74 t613.length co74) : Value).ownBlock) (.slice Ao34 t578.length co34) t578) ∧ Aside0 (Kd.R (Kd.int .i64) 3 wc w.heap.size (fun k_ => some k_ ≠ ((.slice Ao34 t578.length co34) : Value).ownBlock ∧ some k_ ≠ ((.slice Ao52 t592.length co52) : Value).ownBlock ∧ some k_ ≠ ((.slice Ao53 t595.length co53) : Value).ownBlock ∧ some k_ ≠ ((.slice Ao63 t605.length co63) : Value).ownBlock ∧ some k_ ≠ ((.slice Ao73 t610.length co73) : Value).ownBlock ∧ some k_ ≠ ((.slice Ao74 t613.length co74) : Value).ownBlock) (.slice Ao36 t581.length co36) t581) ∧ Aside0 (Kd.R (Kd.int .i64) 3 wc w.heap.size (fun k_ => some k_ ≠ ((.slice Ao34 t578.length co34) : Value).ownBlock ∧ some k_ ≠ ((.slice Ao36 t581.length co36) : Value).ownBlock ∧ some k_ ≠ ((.slice Ao53 t595.length co53) : Value).ownBlock ∧ some k_ ≠ ((.slice Ao63 t605.length co63) : Value).ownBlock ∧ some k_ ≠ ((.slice Ao73 t610.length co73) : Value).ownBlock ∧ some k_ ≠ ((.slice Ao74 t613.length co74) : Value).ownBlock) (.slice Ao52 t592.length co52) t592) ∧ Aside0 (Kd.R (Kd.int .i64) 3 wc w.heap.size (fun k_ => some k_ ≠ ((.slice Ao34 t578.length co34) : Value).ownBlock ∧ some k_ ≠ ((.slice Ao36 t581.length co36) : Value).ownBlock ∧ some k_ ≠ ((.slice Ao52 t592.length co52) : Value).ownBlock ∧ some k_ ≠ ((.slice Ao63 t605.length co63) : Value).ownBlock ∧ some k_ ≠ ((.slice Ao73 t610.length co73) : Value).ownBlock ∧ some k_ ≠ ((.slice Ao74 t613.length co74) : Value).ownBlock) (.slice Ao53 t595.length co53) t595) ∧ Aside0 (Kd.R (Kd.int .i64) 3 wc w.heap.size (fun k_ => some k_ ≠ ((.slice Ao34 t578.length co34) : Value).ownBlock ∧ some k_ ≠ ((.slice Ao36 t581.length co36) : Value).ownBlock ∧ some k_ ≠ ((.slice Ao52 t592.length co52) : Value).ownBlock ∧ some k_ ≠ ((.slice Ao53 t595.length co53) : Value).ownBlock ∧ some k_ ≠ ((.slice Ao73 t610.length co73) : Value).ownBlock ∧ some k_ ≠ ((.slice Ao74 t613.length co74) : Value).ownBlock) (.slice Ao63 t605.length co63) t605) ∧ Aside0 (Kd.R (Kd.int .i64) 3 wc w.heap.size (fun k_ => some k_ ≠ ((.slice Ao34 t578.length co34) : Value).ownBlock ∧ some k_ ≠ ((.slice Ao36 t581.length co36) : Value).ownBlock ∧ some k_ ≠ ((.slice Ao52 t592.length co52) : Value).ownBlock ∧ some k_ ≠ ((.slice Ao53 t595.length co53) : Value).ownBlock ∧ some k_ ≠ ((.slice Ao63 t605.length co63) : Value).ownBlock ∧ some k_ ≠ ((.slice Ao74 t613.length co74) : Value).ownBlock) (.slice Ao73 t610.length co73) t610) ∧ Aside0 (Kd.R (Kd.int .i64) 3 wc w.heap.size (fun k_ => some k_ ≠ ((.slice Ao34 t578.length co34) : Value).ownBlock ∧ some k_ ≠ ((.slice Ao36 t581.length co36) : Value).ownBlock ∧ some k_ ≠ ((.slice Ao52 t592.length co52) : Value).ownBlock ∧ some k_ ≠ ((.slice Ao53 t595.length co53) : Value).ownBlock ∧ some k_ ≠ ((.slice Ao63 t605.length co63) : Value).ownBlock ∧ some k_ ≠ ((.slice Ao73 t610.length co73) : Value).ownBlock) (.slice Ao74 t613.length co74) t613) ∧ Aside0 (wc.heap[gb557]? = some (.cells #[.int .i64 a0_0, (.slice A0_1 l0_1.length c0_1), (.slice A0_2 l0_2.length c0_2), .int .u32 a0_3, .int .i64 a0_4, .int .i64 a0_5, .int .i64 a0_6, .int .u32 a0_7] 25 (0, 0))) ∧ Aside0 (wc.heap[gb558]? = some (.cells #[.int .i64 a1_0, (.slice A1_1 l1_1.length c1_1)] 35 (0, 0))) ∧ Aside0 (wc.heap[gb590]? = some (.cells #[.int .i64 t577, (.slice Ao34 t578.length co34), (.slice Ao36 t581.length co36), .int .u32 t584, .int .i64 t585, .int .i64 t586, .int .i64 t587, .int .u32 t588] 28 (0, 0))) ∧ Aside0 (wc.heap[gb603]? = some (.cells #[.int .i64 t591, (.slice Ao52 t592.length co52), (.slice Ao53 t595.length co53), .int .u32 t598, .int .i64 t599, .int .i64 t600, .int .i64 t601, .int .u32 t602] 28 (0, 0))) ∧ Aside0 (wc.heap[gb608]? = some (.cells #[.int .i64 t604, (.slice Ao63 t605.length co63)] 39 (0, 0))) ∧ Aside0 (wc.heap[gb622]? = some (.cells #[.int .i64 t609, (.slice Ao73 t610.length co73), (.slice Ao74 t613.length co74), .int .u32 t616, .int .i64 t617, .int .i64 t618, .int .i64 t619, .int .u32 t620] 28 (0, 0))) ∧ Aside0 (Below w.heap.size w wc))
   case first => as_aux_lemma =>
    have H := HC23.out
    clear HC23
    replace H := bn H
    obtain ⟨t623, A75, H⟩ := H
    try dsimp only at H
    replace H := ib H
    rcases H with ⟨rfl, H⟩ | ⟨rfl, H⟩
    ·(try simp only [Bool.not_true, Bool.not_false])
     have H' := Aside0.mk H
     clear H
     have hnb77 := NB622_557.out
     have hnc77 := NB557_622.out
     have hnb78 := NB622_558.out
     have hnc78 := NB558_622.out
     have hnb79 := NB622_590.out
     have hnc79 := NB590_622.out
     have hnb80 := NB622_603.out
     have hnc80 := NB603_622.out
     have hnb81 := NB622_608.out
     have hnc81 := NB608_622.out
     obtain ⟨z82_0, z82_1, z82_2, z82_3, z82_4, z82_5, z82_6, z82_7⟩ := ca8 BK622
     have hnb84 := NB590_558.out
     have hnc84 := NB558_590.out
     have hnb85 := NB590_603.out
     have hnc85 := NB603_590.out
     have hnb86 := NB590_608.out
     have hnc86 := NB608_590.out
     obtain ⟨z87_0, z87_1, z87_2, z87_3, z87_4, z87_5, z87_6, z87_7⟩ := ca8 BK590
     go_wp2_with (first | ((with_reducible refine gf 12 ?_); refine gl 12 Tryd.func12 (some 47) #[.agg #[.int .i64 t609, .slice Ao73 t610.length co73, .slice Ao74 t613.length co74, .int .u32 t616, .int .i64 t617, .int .i64 t618, .int .i64 t619, .int .u32 t620], .agg #[.int .i64 t577, .slice Ao34 t578.length co34, .slice Ao36 t581.length co36, .int .u32 t584, .int .i64 t585, .int .i64 t586, .int .i64 t587, .int .u32 t588]] ?_; (with_reducible refine (laws_eqWarp.calls _ _ _ _ _ _ _ _ _ _ _ _ _ _ _ _ _ _ _ _ _ _ _ _ _ _ _ ?side1 ?side2 ?side3 ?side4 ?side5 ?side6 ?side7 ?side8 A75.out).mono ?_); (case side1 => refine (Kd.R_reads' (e := 3) (base := w.heap.size) (ok := fun k_ => ((((((((some k_ ≠ (.slice Ao74 t613.length co74 : Value).ownBlock ∧ some k_ ≠ (v563 : Value).ownBlock) ∧ some k_ ≠ (v566 : Value).ownBlock) ∧ some k_ ≠ (v575 : Value).ownBlock) ∧ some k_ ≠ (.slice Ao34 t578.length co34 : Value).ownBlock) ∧ some k_ ≠ (.slice Ao36 t581.length co36 : Value).ownBlock) ∧ some k_ ≠ (.slice Ao52 t592.length co52 : Value).ownBlock) ∧ some k_ ≠ (.slice Ao53 t595.length co53 : Value).ownBlock) ∧ some k_ ≠ (.slice Ao63 t605.length co63 : Value).ownBlock)) (n := t610.length) (c := co73) ?_).2.2; exact (rx HO612 BK622)); (case side2 => exact (Kd.R_reads' HO612.out).2.1); (case side3 => refine (Kd.R_reads' (e := 3) (base := w.heap.size) (ok := fun k_ => ((((((((some k_ ≠ (.slice Ao73 t610.length co73 : Value).ownBlock ∧ some k_ ≠ (v563 : Value).ownBlock) ∧ some k_ ≠ (v566 : Value).ownBlock) ∧ some k_ ≠ (v575 : Value).ownBlock) ∧ some k_ ≠ (.slice Ao34 t578.length co34 : Value).ownBlock) ∧ some k_ ≠ (.slice Ao36 t581.length co36 : Value).ownBlock) ∧ some k_ ≠ (.slice Ao52 t592.length co52 : Value).ownBlock) ∧ some k_ ≠ (.slice Ao53 t595.length co53 : Value).ownBlock) ∧ some k_ ≠ (.slice Ao63 t605.length co63 : Value).ownBlock)) (n := t613.length) (c := co74) ?_).2.2; exact (rx HO615 BK622)); (case side4 => exact (Kd.R_reads' HO615.out).2.1); (case side5 => refine (Kd.R_reads' (e := 3) (base := w.heap.size) (ok := fun k_ => ((((((some k_ ≠ (v563 : Value).ownBlock ∧ (some k_ ≠ (v566 : Value).ownBlock ∧ (some k_ ≠ (v575 : Value).ownBlock ∧ some k_ ≠ (.slice Ao36 t581.length co36 : Value).ownBlock))) ∧ some k_ ≠ (.slice Ao52 t592.length co52 : Value).ownBlock) ∧ some k_ ≠ (.slice Ao53 t595.length co53 : Value).ownBlock) ∧ some k_ ≠ (.slice Ao63 t605.length co63 : Value).ownBlock) ∧ some k_ ≠ (.slice Ao73 t610.length co73 : Value).ownBlock) ∧ some k_ ≠ (.slice Ao74 t613.length co74 : Value).ownBlock)) (n := t578.length) (c := co34) ?_).2.2; exact (rx HO580 BK622)); (case side6 => exact (Kd.R_reads' HO580.out).2.1); (case side7 => refine (Kd.R_reads' (e := 3) (base := w.heap.size) (ok := fun k_ => ((((((some k_ ≠ (v563 : Value).ownBlock ∧ (some k_ ≠ (v566 : Value).ownBlock ∧ (some k_ ≠ (v575 : Value).ownBlock ∧ some k_ ≠ (.slice Ao34 t578.length co34 : Value).ownBlock))) ∧ some k_ ≠ (.slice Ao52 t592.length co52 : Value).ownBlock) ∧ some k_ ≠ (.slice Ao53 t595.length co53 : Value).ownBlock) ∧ some k_ ≠ (.slice Ao63 t605.length co63 : Value).ownBlock) ∧ some k_ ≠ (.slice Ao73 t610.length co73 : Value).ownBlock) ∧ some k_ ≠ (.slice Ao74 t613.length co74 : Value).ownBlock)) (n := t581.length) (c := co36) ?_).2.2; exact (rx HO583 BK622)); (case side8 => exact (Kd.R_reads' HO583.out).2.1); rintro e w88 ⟨rfl, hb⟩; refine ⟨_, rfl, ?_⟩; replace HO564 := Aside0.mk (Kd.R_below (rx HO564 BK622) hb); replace HO567 := Aside0.mk (Kd.R_below (rx HO567 BK622) hb); replace HO576 := Aside0.mk (Kd.R_below (rx HO576 BK622) hb); replace HO580 := Aside0.mk (Kd.R_below (rx HO580 BK622) hb); replace HO583 := Aside0.mk (Kd.R_below (rx HO583 BK622) hb); replace HO594 := Aside0.mk (Kd.R_below (rx HO594 BK622) hb); replace HO597 := Aside0.mk (Kd.R_below (rx HO597 BK622) hb); replace HO607 := Aside0.mk (Kd.R_below (rx HO607 BK622) hb); replace HO612 := Aside0.mk (Kd.R_below (rx HO612 BK622) hb); replace HO615 := Aside0.mk (Kd.R_below (rx HO615 BK622) hb); replace BK557 := b_ BK557 hb; replace BK558 := b_ BK558 hb; replace BK590 := b_ BK590 hb; replace BK603 := b_ BK603 hb; replace BK608 := b_ BK608 hb; replace BK622 := bq BK622 #[.int .i64 t609, .slice Ao73 t610.length co73, .slice Ao74 t613.length co74, .int .u32 t616, .int .i64 t617, .int .i64 t618, .int .i64 t619, .int .u32 t620] hb; replace HB := hs hb; try clear hb))
     go_meet
     case rel => exact ⟨_, ((t621 != t589)), ev, H', ⟨om⟩, ⟨by (with_reducible repeat (first | apply Kd.R_alloc | apply Kd.R_drewN | apply Kd.R_drew)); exact Kd.R_mono HO580.out (fun _ hk => ⟨hk.1.1.1.1.1.2.2.2, ⟨hk.1.1.1.1.2, ⟨hk.1.1.1.2, ⟨hk.1.1.2, ⟨hk.1.2, hk.2⟩⟩⟩⟩⟩)⟩, ⟨by (with_reducible repeat (first | apply Kd.R_alloc | apply Kd.R_drewN | apply Kd.R_drew)); exact Kd.R_mono HO583.out (fun _ hk => ⟨hk.1.1.1.1.1.2.2.2, ⟨hk.1.1.1.1.2, ⟨hk.1.1.1.2, ⟨hk.1.1.2, ⟨hk.1.2, hk.2⟩⟩⟩⟩⟩)⟩, ⟨by (with_reducible repeat (first | apply Kd.R_alloc | apply Kd.R_drewN | apply Kd.R_drew)); exact Kd.R_mono HO594.out (fun _ hk => ⟨hk.1.1.1.1.2, ⟨hk.1.1.1.2, ⟨hk.1.1.1.1.1.1.1.1, ⟨hk.1.1.2, ⟨hk.1.2, hk.2⟩⟩⟩⟩⟩)⟩, ⟨by (with_reducible repeat (first | apply Kd.R_alloc | apply Kd.R_drewN | apply Kd.R_drew)); exact Kd.R_mono HO597.out (fun _ hk => ⟨hk.1.1.1.1.2, ⟨hk.1.1.1.2, ⟨hk.1.1.1.1.1.1.1.1, ⟨hk.1.1.2, ⟨hk.1.2, hk.2⟩⟩⟩⟩⟩)⟩, ⟨by (with_reducible repeat (first | apply Kd.R_alloc | apply Kd.R_drewN | apply Kd.R_drew)); exact Kd.R_mono HO607.out (fun _ hk => ⟨hk.1.1.1.1.1.2, ⟨hk.1.1.1.1.2, ⟨hk.1.1.1.2, ⟨hk.1.1.2, ⟨hk.1.2, hk.2⟩⟩⟩⟩⟩)⟩, ⟨by (with_reducible repeat (first | apply Kd.R_alloc | apply Kd.R_drewN | apply Kd.R_drew)); exact Kd.R_mono HO612.out (fun _ hk => ⟨hk.1.1.1.1.2, ⟨hk.1.1.1.2, ⟨hk.1.1.2, ⟨hk.1.2, ⟨hk.2, hk.1.1.1.1.1.1.1.1⟩⟩⟩⟩⟩)⟩, ⟨by (with_reducible repeat (first | apply Kd.R_alloc | apply Kd.R_drewN | apply Kd.R_drew)); exact Kd.R_mono HO615.out (fun _ hk => ⟨hk.1.1.1.1.2, ⟨hk.1.1.1.2, ⟨hk.1.1.2, ⟨hk.1.2, ⟨hk.2, hk.1.1.1.1.1.1.1.1⟩⟩⟩⟩⟩)⟩, ⟨bk BK557⟩, ⟨bk BK558⟩, ⟨bk BK590⟩, ⟨bk BK603⟩, ⟨bk BK608⟩, ⟨bk BK622⟩, ⟨bw⟩⟩
    ·(try simp only [Bool.not_true, Bool.not_false])
     have H' := Aside0.mk H
     clear H
     have hnb89 := NB622_557.out
     have hnc89 := NB557_622.out
     have hnb90 := NB622_558.out
     have hnc90 := NB558_622.out
     have hnb91 := NB622_590.out
     have hnc91 := NB590_622.out
     have hnb92 := NB622_603.out
     have hnc92 := NB603_622.out
     have hnb93 := NB622_608.out
     have hnc93 := NB608_622.out
     obtain ⟨z94_0, z94_1, z94_2, z94_3, z94_4, z94_5, z94_6, z94_7⟩ := ca8 BK622
     have hnb96 := NB590_558.out
     have hnc96 := NB558_590.out
     have hnb97 := NB590_603.out
     have hnc97 := NB603_590.out
     have hnb98 := NB590_608.out
     have hnc98 := NB608_590.out
     obtain ⟨z99_0, z99_1, z99_2, z99_3, z99_4, z99_5, z99_6, z99_7⟩ := ca8 BK590
     go_wp2_with (first | ((with_reducible refine gf 12 ?_); refine gl 12 Tryd.func12 (some 47) #[.agg #[.int .i64 t609, .slice Ao73 t610.length co73, .slice Ao74 t613.length co74, .int .u32 t616, .int .i64 t617, .int .i64 t618, .int .i64 t619, .int .u32 t620], .agg #[.int .i64 t577, .slice Ao34 t578.length co34, .slice Ao36 t581.length co36, .int .u32 t584, .int .i64 t585, .int .i64 t586, .int .i64 t587, .int .u32 t588]] ?_; (with_reducible refine (laws_eqWarp.calls _ _ _ _ _ _ _ _ _ _ _ _ _ _ _ _ _ _ _ _ _ _ _ _ _ _ _ ?side1 ?side2 ?side3 ?side4 ?side5 ?side6 ?side7 ?side8 A75.out).mono ?_); (case side1 => refine (Kd.R_reads' (e := 3) (base := w.heap.size) (ok := fun k_ => ((((((((some k_ ≠ (.slice Ao74 t613.length co74 : Value).ownBlock ∧ some k_ ≠ (v563 : Value).ownBlock) ∧ some k_ ≠ (v566 : Value).ownBlock) ∧ some k_ ≠ (v575 : Value).ownBlock) ∧ some k_ ≠ (.slice Ao34 t578.length co34 : Value).ownBlock) ∧ some k_ ≠ (.slice Ao36 t581.length co36 : Value).ownBlock) ∧ some k_ ≠ (.slice Ao52 t592.length co52 : Value).ownBlock) ∧ some k_ ≠ (.slice Ao53 t595.length co53 : Value).ownBlock) ∧ some k_ ≠ (.slice Ao63 t605.length co63 : Value).ownBlock)) (n := t610.length) (c := co73) ?_).2.2; exact (rx HO612 BK622)); (case side2 => exact (Kd.R_reads' HO612.out).2.1); (case side3 => refine (Kd.R_reads' (e := 3) (base := w.heap.size) (ok := fun k_ => ((((((((some k_ ≠ (.slice Ao73 t610.length co73 : Value).ownBlock ∧ some k_ ≠ (v563 : Value).ownBlock) ∧ some k_ ≠ (v566 : Value).ownBlock) ∧ some k_ ≠ (v575 : Value).ownBlock) ∧ some k_ ≠ (.slice Ao34 t578.length co34 : Value).ownBlock) ∧ some k_ ≠ (.slice Ao36 t581.length co36 : Value).ownBlock) ∧ some k_ ≠ (.slice Ao52 t592.length co52 : Value).ownBlock) ∧ some k_ ≠ (.slice Ao53 t595.length co53 : Value).ownBlock) ∧ some k_ ≠ (.slice Ao63 t605.length co63 : Value).ownBlock)) (n := t613.length) (c := co74) ?_).2.2; exact (rx HO615 BK622)); (case side4 => exact (Kd.R_reads' HO615.out).2.1); (case side5 => refine (Kd.R_reads' (e := 3) (base := w.heap.size) (ok := fun k_ => ((((((some k_ ≠ (v563 : Value).ownBlock ∧ (some k_ ≠ (v566 : Value).ownBlock ∧ (some k_ ≠ (v575 : Value).ownBlock ∧ some k_ ≠ (.slice Ao36 t581.length co36 : Value).ownBlock))) ∧ some k_ ≠ (.slice Ao52 t592.length co52 : Value).ownBlock) ∧ some k_ ≠ (.slice Ao53 t595.length co53 : Value).ownBlock) ∧ some k_ ≠ (.slice Ao63 t605.length co63 : Value).ownBlock) ∧ some k_ ≠ (.slice Ao73 t610.length co73 : Value).ownBlock) ∧ some k_ ≠ (.slice Ao74 t613.length co74 : Value).ownBlock)) (n := t578.length) (c := co34) ?_).2.2; exact (rx HO580 BK622)); (case side6 => exact (Kd.R_reads' HO580.out).2.1); (case side7 => refine (Kd.R_reads' (e := 3) (base := w.heap.size) (ok := fun k_ => ((((((some k_ ≠ (v563 : Value).ownBlock ∧ (some k_ ≠ (v566 : Value).ownBlock ∧ (some k_ ≠ (v575 : Value).ownBlock ∧ some k_ ≠ (.slice Ao34 t578.length co34 : Value).ownBlock))) ∧ some k_ ≠ (.slice Ao52 t592.length co52 : Value).ownBlock) ∧ some k_ ≠ (.slice Ao53 t595.length co53 : Value).ownBlock) ∧ some k_ ≠ (.slice Ao63 t605.length co63 : Value).ownBlock) ∧ some k_ ≠ (.slice Ao73 t610.length co73 : Value).ownBlock) ∧ some k_ ≠ (.slice Ao74 t613.length co74 : Value).ownBlock)) (n := t581.length) (c := co36) ?_).2.2; exact (rx HO583 BK622)); (case side8 => exact (Kd.R_reads' HO583.out).2.1); rintro e w100 ⟨rfl, hb⟩; refine ⟨_, rfl, ?_⟩; replace HO564 := Aside0.mk (Kd.R_below (rx HO564 BK622) hb); replace HO567 := Aside0.mk (Kd.R_below (rx HO567 BK622) hb); replace HO576 := Aside0.mk (Kd.R_below (rx HO576 BK622) hb); replace HO580 := Aside0.mk (Kd.R_below (rx HO580 BK622) hb); replace HO583 := Aside0.mk (Kd.R_below (rx HO583 BK622) hb); replace HO594 := Aside0.mk (Kd.R_below (rx HO594 BK622) hb); replace HO597 := Aside0.mk (Kd.R_below (rx HO597 BK622) hb); replace HO607 := Aside0.mk (Kd.R_below (rx HO607 BK622) hb); replace HO612 := Aside0.mk (Kd.R_below (rx HO612 BK622) hb); replace HO615 := Aside0.mk (Kd.R_below (rx HO615 BK622) hb); replace BK557 := b_ BK557 hb; replace BK558 := b_ BK558 hb; replace BK590 := b_ BK590 hb; replace BK603 := b_ BK603 hb; replace BK608 := b_ BK608 hb; replace BK622 := bq BK622 #[.int .i64 t609, .slice Ao73 t610.length co73, .slice Ao74 t613.length co74, .int .u32 t616, .int .i64 t617, .int .i64 t618, .int .i64 t619, .int .u32 t620] hb; replace HB := hs hb; try clear hb))
     go_meet
     case rel => exact ⟨_, (true), ev, H', ⟨om⟩, ⟨by (with_reducible repeat (first | apply Kd.R_alloc | apply Kd.R_drewN | apply Kd.R_drew)); exact Kd.R_mono HO580.out (fun _ hk => ⟨hk.1.1.1.1.1.2.2.2, ⟨hk.1.1.1.1.2, ⟨hk.1.1.1.2, ⟨hk.1.1.2, ⟨hk.1.2, hk.2⟩⟩⟩⟩⟩)⟩, ⟨by (with_reducible repeat (first | apply Kd.R_alloc | apply Kd.R_drewN | apply Kd.R_drew)); exact Kd.R_mono HO583.out (fun _ hk => ⟨hk.1.1.1.1.1.2.2.2, ⟨hk.1.1.1.1.2, ⟨hk.1.1.1.2, ⟨hk.1.1.2, ⟨hk.1.2, hk.2⟩⟩⟩⟩⟩)⟩, ⟨by (with_reducible repeat (first | apply Kd.R_alloc | apply Kd.R_drewN | apply Kd.R_drew)); exact Kd.R_mono HO594.out (fun _ hk => ⟨hk.1.1.1.1.2, ⟨hk.1.1.1.2, ⟨hk.1.1.1.1.1.1.1.1, ⟨hk.1.1.2, ⟨hk.1.2, hk.2⟩⟩⟩⟩⟩)⟩, ⟨by (with_reducible repeat (first | apply Kd.R_alloc | apply Kd.R_drewN | apply Kd.R_drew)); exact Kd.R_mono HO597.out (fun _ hk => ⟨hk.1.1.1.1.2, ⟨hk.1.1.1.2, ⟨hk.1.1.1.1.1.1.1.1, ⟨hk.1.1.2, ⟨hk.1.2, hk.2⟩⟩⟩⟩⟩)⟩, ⟨by (with_reducible repeat (first | apply Kd.R_alloc | apply Kd.R_drewN | apply Kd.R_drew)); exact Kd.R_mono HO607.out (fun _ hk => ⟨hk.1.1.1.1.1.2, ⟨hk.1.1.1.1.2, ⟨hk.1.1.1.2, ⟨hk.1.1.2, ⟨hk.1.2, hk.2⟩⟩⟩⟩⟩)⟩, ⟨by (with_reducible repeat (first | apply Kd.R_alloc | apply Kd.R_drewN | apply Kd.R_drew)); exact Kd.R_mono HO612.out (fun _ hk => ⟨hk.1.1.1.1.2, ⟨hk.1.1.1.2, ⟨hk.1.1.2, ⟨hk.1.2, ⟨hk.2, hk.1.1.1.1.1.1.1.1⟩⟩⟩⟩⟩)⟩, ⟨by (with_reducible repeat (first | apply Kd.R_alloc | apply Kd.R_drewN | apply Kd.R_drew)); exact Kd.R_mono HO615.out (fun _ hk => ⟨hk.1.1.1.1.2, ⟨hk.1.1.1.2, ⟨hk.1.1.2, ⟨hk.1.2, ⟨hk.2, hk.1.1.1.1.1.1.1.1⟩⟩⟩⟩⟩)⟩, ⟨bk BK557⟩, ⟨bk BK558⟩, ⟨bk BK590⟩, ⟨bk BK603⟩, ⟨bk BK608⟩, ⟨bk BK622⟩, ⟨bw⟩⟩
   case rest => as_aux_lemma =>
    clear HC23
    try clear c10
    try clear c16
    (try clear z45_0 z45_1 z45_2 z45_3 z45_4 z45_5 z45_6 z45_7)
    (try clear z51_0 z51_1 z51_2 z51_3 z51_4 z51_5 z51_6 z51_7)
    (try clear z55_0 z55_1)
    (try clear z62_0 z62_1)
    (try clear z64_0 z64_1 z64_2 z64_3 z64_4 z64_5 z64_6 z64_7)
    (try clear z72_0 z72_1 z72_2 z72_3 z72_4 z72_5 z72_6 z72_7)
    (try clear f45_0 f45_1 f45_2 f45_3 f45_4 f45_5 f45_6 f45_7)
    (try clear f51_0 f51_1 f51_2 f51_3 f51_4 f51_5 f51_6 f51_7)
    (try clear f55_0 f55_1)
    (try clear f62_0 f62_1)
    (try clear f64_0 f64_1 f64_2 f64_3 f64_4 f64_5 f64_6 f64_7)
    (try clear f72_0 f72_1 f72_2 f72_3 f72_4 f72_5 f72_6 f72_7)
    obtain ⟨kq, x53_22, rfl, HA, HJ22, HO_591001, HO_591002, HO_604001, HO_604002, HO_609001, HO_623001, HO_623002, BK557, BK558, BK590, BK603, BK608, BK622, HB⟩ := hcut
    cases kq with
    | zero => exact absurd HA.out (by simp [laws_FnExactWarpSubmit.j0])
    | succ kj22 =>
     have H := HA.out
     clear HA
     simp only [laws_FnExactWarpSubmit.j0] at H
     replace H := ib H
     rcases H with ⟨rfl, H⟩ | ⟨rfl, H⟩
     ·obtain rfl := Option.some.inj H
      go_wp2
      go_ret
      exact ⟨rt, bw⟩
     ·replace H := bn H
      obtain ⟨⟨t624, t625, t628, t631, t632, t633, t634, t635⟩, A102, H⟩ := H
      try dsimp only at H
      replace H := bn H
      obtain ⟨t636, A103, H⟩ := H
      try dsimp only at H
      have HU104 := Aside0.mk H
      clear H
      try go_wp2
      replace HO_591001 := Aside0.mk (Kd.R_drew HO_591001.out)
      replace HO_591002 := Aside0.mk (Kd.R_drew HO_591002.out)
      replace HO_604001 := Aside0.mk (Kd.R_drew HO_604001.out)
      replace HO_604002 := Aside0.mk (Kd.R_drew HO_604002.out)
      replace HO_609001 := Aside0.mk (Kd.R_drew HO_609001.out)
      replace HO_623001 := Aside0.mk (Kd.R_drew HO_623001.out)
      replace HO_623002 := Aside0.mk (Kd.R_drew HO_623002.out)
      replace BK557 := bd BK557
      replace BK558 := bd BK558
      replace BK590 := bd BK590
      replace BK603 := bd BK603
      replace BK608 := bd BK608
      replace BK622 := bd BK622
      replace HB := hd HB
      refine st0 5 (fun w' => CA w' gb603 0 [.int .i64 t591, .slice Ao52 t592.length co52, .slice Ao53 t595.length co53, .int .u32 t598, .int .i64 t599, .int .i64 t600, .int .i64 t601, .int .u32 t602] ∧ CA w' gb557 0 [.int .i64 a0_0, .slice A0_1 l0_1.length c0_1, .slice A0_2 l0_2.length c0_2, .int .u32 a0_3, .int .i64 a0_4, .int .i64 a0_5, .int .i64 a0_6, .int .u32 a0_7]) [] ⟨cx BK603, cx BK557⟩ ?_; intro hHeld
      generalize wc.drew = w105 at HO_591001 HO_591002 HO_604001 HO_604002 HO_609001 HO_623001 HO_623002 BK557 BK558 BK590 BK603 BK608 BK622 HB hHeld ⊢
      refine tk 0 54 (bl 5 1) ?_
      refine tk 1 55 (bl 5 3) ?_
      refine on_ 2 (some 56) (bl 5 7) (fun K hK => ?_)
      refine gq Tryd.func10 (laws_toWarp.calls _ _ A0_1 c0_1 _ A0_2 c0_2 _ _ _ _ _ _ _ _ _ _ _ _ _ _ _ (cb HR0_1) HC0_1.out (cb HR0_2) HC0_2.out A102.out) ?_
      rintro e w106 ⟨v626, v629, rfl, ho0, ho1, hb⟩
      refine ⟨_, rfl, ?_⟩
      have HO627 := Aside0.mk (Kd.R_lower (Kd.R_new' (Kd.R_new' (Kd.R_new' (Kd.R_new' (Kd.R_new' (Kd.R_new' (Kd.R_new' ho0 (Kd.R_lt (ro HO_591001))) (Kd.R_lt (ro HO_591002))) (Kd.R_lt (ro HO_604001))) (Kd.R_lt (ro HO_604002))) (Kd.R_lt (ro HO_609001))) (Kd.R_lt (ro HO_623001))) (Kd.R_lt (ro HO_623002))) (below_size bw))
      have HO630 := Aside0.mk (Kd.R_lower (Kd.R_new' (Kd.R_new' (Kd.R_new' (Kd.R_new' (Kd.R_new' (Kd.R_new' (Kd.R_new' ho1 (Kd.R_lt (ro HO_591001))) (Kd.R_lt (ro HO_591002))) (Kd.R_lt (ro HO_604001))) (Kd.R_lt (ro HO_604002))) (Kd.R_lt (ro HO_609001))) (Kd.R_lt (ro HO_623001))) (Kd.R_lt (ro HO_623002))) (below_size bw))
      replace HO_591001 := Aside0.mk (Kd.R_mono (Kd.R_told (Kd.R_told (Kd.R_old (ro HO_591001) hb) (Kd.R_base ho0)) (Kd.R_base ho1)) (fun _ h_ => h_.1))
      replace HO_591002 := Aside0.mk (Kd.R_mono (Kd.R_told (Kd.R_told (Kd.R_old (ro HO_591002) hb) (Kd.R_base ho0)) (Kd.R_base ho1)) (fun _ h_ => h_.1))
      replace HO_604001 := Aside0.mk (Kd.R_mono (Kd.R_told (Kd.R_told (Kd.R_old (ro HO_604001) hb) (Kd.R_base ho0)) (Kd.R_base ho1)) (fun _ h_ => h_.1))
      replace HO_604002 := Aside0.mk (Kd.R_mono (Kd.R_told (Kd.R_told (Kd.R_old (ro HO_604002) hb) (Kd.R_base ho0)) (Kd.R_base ho1)) (fun _ h_ => h_.1))
      replace HO_609001 := Aside0.mk (Kd.R_mono (Kd.R_told (Kd.R_told (Kd.R_old (ro HO_609001) hb) (Kd.R_base ho0)) (Kd.R_base ho1)) (fun _ h_ => h_.1))
      replace HO_623001 := Aside0.mk (Kd.R_mono (Kd.R_told (Kd.R_told (Kd.R_old (ro HO_623001) hb) (Kd.R_base ho0)) (Kd.R_base ho1)) (fun _ h_ => h_.1))
      replace HO_623002 := Aside0.mk (Kd.R_mono (Kd.R_told (Kd.R_told (Kd.R_old (ro HO_623002) hb) (Kd.R_base ho0)) (Kd.R_base ho1)) (fun _ h_ => h_.1))
      replace BK557 := b_ BK557 hb
      replace BK558 := b_ BK558 hb
      replace BK590 := b_ BK590 hb
      replace BK603 := b_ BK603 hb
      replace BK608 := b_ BK608 hb
      replace BK622 := b_ BK622 hb
      replace HB := hs hb
      (try clear hb)
      (try clear hb2)
      (try clear hk)
      (try clear hi)
      (try clear ho0)
      (try clear ho1)
      obtain ⟨Ao107, co107, eo107⟩ := Kd.R_slice HO627.out
      (first | subst eo107 | (injection eo107 with f1_ f2_ f3_; have f4_ := f1_.symm; have f5_ := f3_.symm; clear f1_ f2_ f3_; subst f4_; subst f5_))
      obtain ⟨Ao108, co108, eo108⟩ := Kd.R_slice HO630.out
      (first | subst eo108 | (injection eo108 with f1_ f2_ f3_; have f4_ := f1_.symm; have f5_ := f3_.symm; clear f1_ f2_ f3_; subst f4_; subst f5_))
      refine hK.out _ _ ⟨cx BK603, cx BK557⟩ (fun hHeld => ?_)
      clear hK K
      refine nm ?_
      refine on_ 3 (some 57) (bl 5 15) (fun K hK => ?_)
      refine gq Tryd.func12 (laws_eqWarp.calls _ _ Ao52 co52 _ Ao53 co53 _ _ _ _ _ _ _ Ao107 co107 _ Ao108 co108 _ _ _ _ _ _ _ _ (cr HO_604001) ((Kd.R_reads' HO_604001.out).2.1) (cr HO_604002) ((Kd.R_reads' HO_604002.out).2.1) (cr HO627) ((Kd.R_reads' HO627.out).2.1) (cr HO630) ((Kd.R_reads' HO630.out).2.1) A103.out) ?_
      rintro e w109 ⟨rfl, hb⟩
      refine ⟨_, rfl, ?_⟩
      replace HO_591001 := Aside0.mk (Kd.R_below (ro HO_591001) hb)
      replace HO_591002 := Aside0.mk (Kd.R_below (ro HO_591002) hb)
      replace HO_604001 := Aside0.mk (Kd.R_below (ro HO_604001) hb)
      replace HO_604002 := Aside0.mk (Kd.R_below (ro HO_604002) hb)
      replace HO_609001 := Aside0.mk (Kd.R_below (ro HO_609001) hb)
      replace HO_623001 := Aside0.mk (Kd.R_below (ro HO_623001) hb)
      replace HO_623002 := Aside0.mk (Kd.R_below (ro HO_623002) hb)
      replace HO627 := Aside0.mk (Kd.R_below (ro HO627) hb)
      replace HO630 := Aside0.mk (Kd.R_below (ro HO630) hb)
      replace BK557 := b_ BK557 hb
      replace BK558 := b_ BK558 hb
      replace BK590 := b_ BK590 hb
      replace BK603 := b_ BK603 hb
      replace BK608 := b_ BK608 hb
      replace BK622 := b_ BK622 hb
      replace HB := hs hb
      (try clear hb)
      (try clear hb2)
      (try clear hk)
      (try clear hi)
      refine hK.out _ _ ⟨cx BK603, cx BK557⟩ (fun hHeld => ?_)
      clear hK K
      refine nm ?_
      refine pu 4 58 (bl 5 31) ?_
      refine dn ?_ _
      go_upto_if 58 with (fail)
      have H := HU104.out
      clear HU104
      replace H := ib H
      rcases H with ⟨rfl, H⟩ | ⟨rfl, H⟩
      ·(try simp only [Bool.not_true, Bool.not_false])
       replace H := bn H
       obtain ⟨⟨t637, t638⟩, A111, H⟩ := H
       try dsimp only at H
       replace H := bn H
       obtain ⟨t641, A112, H⟩ := H
       try dsimp only at H
       have HU113 := Aside0.mk H
       clear H
       try go_wp2
       replace HO_591001 := Aside0.mk (Kd.R_drew HO_591001.out)
       replace HO_591002 := Aside0.mk (Kd.R_drew HO_591002.out)
       replace HO_604001 := Aside0.mk (Kd.R_drew HO_604001.out)
       replace HO_604002 := Aside0.mk (Kd.R_drew HO_604002.out)
       replace HO_609001 := Aside0.mk (Kd.R_drew HO_609001.out)
       replace HO_623001 := Aside0.mk (Kd.R_drew HO_623001.out)
       replace HO_623002 := Aside0.mk (Kd.R_drew HO_623002.out)
       replace HO627 := Aside0.mk (Kd.R_drew HO627.out)
       replace HO630 := Aside0.mk (Kd.R_drew HO630.out)
       replace BK557 := bd BK557
       replace BK558 := bd BK558
       replace BK590 := bd BK590
       replace BK603 := bd BK603
       replace BK608 := bd BK608
       replace BK622 := bd BK622
       replace HB := hd HB
       refine st0 5 (fun w' => CA w' gb608 0 [.int .i64 t604, .slice Ao63 t605.length co63] ∧ CA w' gb558 0 [.int .i64 a1_0, .slice A1_1 l1_1.length c1_1]) [] ⟨cx BK608, cx BK558⟩ ?_; intro hHeld
       generalize w109.drew = w114 at HO_591001 HO_591002 HO_604001 HO_604002 HO_609001 HO_623001 HO_623002 HO627 HO630 BK557 BK558 BK590 BK603 BK608 BK622 HB hHeld ⊢
       refine tk 0 59 (bl 5 1) ?_
       refine tk 1 60 (bl 5 3) ?_
       refine on_ 2 (some 61) (bl 5 7) (fun K hK => ?_)
       refine gq Tryd.func17 (laws_toReq.calls _ _ A1_1 c1_1 _ _ _ _ (cb HR1_1) HC1_1.out A111.out) ?_
       rintro e w115 ⟨v639, rfl, ho0, hb⟩
       refine ⟨_, rfl, ?_⟩
       have HO640 := Aside0.mk (Kd.R_lower (Kd.R_new' (Kd.R_new' (Kd.R_new' (Kd.R_new' (Kd.R_new' (Kd.R_new' (Kd.R_new' (Kd.R_new' (Kd.R_new' ho0 (Kd.R_lt (ro HO_591001))) (Kd.R_lt (ro HO_591002))) (Kd.R_lt (ro HO_604001))) (Kd.R_lt (ro HO_604002))) (Kd.R_lt (ro HO_609001))) (Kd.R_lt (ro HO_623001))) (Kd.R_lt (ro HO_623002))) (Kd.R_lt (ro HO627))) (Kd.R_lt (ro HO630))) (below_size bw))
       replace HO_591001 := Aside0.mk (Kd.R_elder' (ro HO_591001) (Kd.R_base ho0) hb)
       replace HO_591002 := Aside0.mk (Kd.R_elder' (ro HO_591002) (Kd.R_base ho0) hb)
       replace HO_604001 := Aside0.mk (Kd.R_elder' (ro HO_604001) (Kd.R_base ho0) hb)
       replace HO_604002 := Aside0.mk (Kd.R_elder' (ro HO_604002) (Kd.R_base ho0) hb)
       replace HO_609001 := Aside0.mk (Kd.R_elder' (ro HO_609001) (Kd.R_base ho0) hb)
       replace HO_623001 := Aside0.mk (Kd.R_elder' (ro HO_623001) (Kd.R_base ho0) hb)
       replace HO_623002 := Aside0.mk (Kd.R_elder' (ro HO_623002) (Kd.R_base ho0) hb)
       replace HO627 := Aside0.mk (Kd.R_elder' (ro HO627) (Kd.R_base ho0) hb)
       replace HO630 := Aside0.mk (Kd.R_elder' (ro HO630) (Kd.R_base ho0) hb)
       replace BK557 := b_ BK557 hb
       replace BK558 := b_ BK558 hb
       replace BK590 := b_ BK590 hb
       replace BK603 := b_ BK603 hb
       replace BK608 := b_ BK608 hb
       replace BK622 := b_ BK622 hb
       replace HB := hs hb
       (try clear hb)
       (try clear hb2)
       (try clear hk)
       (try clear hi)
       (try clear ho0)
       obtain ⟨Ao116, co116, eo116⟩ := Kd.R_slice HO640.out
       (first | subst eo116 | (injection eo116 with f1_ f2_ f3_; have f4_ := f1_.symm; have f5_ := f3_.symm; clear f1_ f2_ f3_; subst f4_; subst f5_))
       refine hK.out _ _ ⟨cx BK608, cx BK558⟩ (fun hHeld => ?_)
       clear hK K
       refine nm ?_
       refine on_ 3 (some 62) (bl 5 15) (fun K hK => ?_)
       refine gq Tryd.func19 (laws_eqReq.calls _ _ Ao63 co63 _ _ Ao116 co116 _ _ _ (cr HO_609001) ((Kd.R_reads' HO_609001.out).2.1) (cr HO640) ((Kd.R_reads' HO640.out).2.1) A112.out) ?_
       rintro e w117 ⟨rfl, hb⟩
       refine ⟨_, rfl, ?_⟩
       replace HO_591001 := Aside0.mk (Kd.R_below (ro HO_591001) hb)
       replace HO_591002 := Aside0.mk (Kd.R_below (ro HO_591002) hb)
       replace HO_604001 := Aside0.mk (Kd.R_below (ro HO_604001) hb)
       replace HO_604002 := Aside0.mk (Kd.R_below (ro HO_604002) hb)
       replace HO_609001 := Aside0.mk (Kd.R_below (ro HO_609001) hb)
       replace HO_623001 := Aside0.mk (Kd.R_below (ro HO_623001) hb)
       replace HO_623002 := Aside0.mk (Kd.R_below (ro HO_623002) hb)
       replace HO627 := Aside0.mk (Kd.R_below (ro HO627) hb)
       replace HO630 := Aside0.mk (Kd.R_below (ro HO630) hb)
       replace HO640 := Aside0.mk (Kd.R_below (ro HO640) hb)
       replace BK557 := b_ BK557 hb
       replace BK558 := b_ BK558 hb
       replace BK590 := b_ BK590 hb
       replace BK603 := b_ BK603 hb
       replace BK608 := b_ BK608 hb
       replace BK622 := b_ BK622 hb
       replace HB := hs hb
       (try clear hb)
       (try clear hb2)
       (try clear hk)
       (try clear hi)
       refine hK.out _ _ ⟨cx BK608, cx BK558⟩ (fun hHeld => ?_)
       clear hK K
       refine nm ?_
       refine pu 4 63 (bl 5 31) ?_
       refine dn ?_ _
       go_upto_if 63 with (fail)
       have H := HU113.out
       clear HU113
       replace H := ib H
       rcases H with ⟨rfl, H⟩ | ⟨rfl, H⟩
       ·(try simp only [Bool.not_true, Bool.not_false])
        replace H := bn H
        obtain ⟨⟨t642, t643, t644⟩, A119, H⟩ := H
        try dsimp only at H
        replace H := bn H
        obtain ⟨⟨t645, t646⟩, A120, H⟩ := H
        try dsimp only at H
        have HC121 := Aside0.mk H
        clear H
        have hnb122 := NB603_557.out
        have hnc122 := NB557_603.out
        have hnb123 := NB603_558.out
        have hnc123 := NB558_603.out
        have hnb124 := NB603_590.out
        have hnc124 := NB590_603.out
        have hnb125 := NB603_608.out
        have hnc125 := NB608_603.out
        have hnb126 := NB603_622.out
        have hnc126 := NB622_603.out
        obtain ⟨z127_0, z127_1, z127_2, z127_3, z127_4, z127_5, z127_6, z127_7⟩ := ca8 BK603
        go_upto_region 21 with (first | ((with_reducible refine gf 20 ?_); refine gl 20 Tryd.func20 (some 66) #[.agg #[.int .i64 t591, .slice Ao52 t592.length co52, .slice Ao53 t595.length co53, .int .u32 t598, .int .i64 t599, .int .i64 t600, .int .i64 t601, .int .u32 t602], .int .i64 1] ?_; (with_reducible refine (laws_markWarp.calls _ _ (fun k_ => some k_ = (.slice Ao52 t592.length co52 : Value).ownBlock) _ _ (fun k_ => some k_ = (.slice Ao53 t595.length co53 : Value).ownBlock) _ _ _ _ _ _ _ _ _ _ _ w _ ?side1 ?side2 ?side3 ?side4 ?side5 A119.out).mono ?_); (case side1 => repeat (first | (with_reducible first | exact HB.out | apply below_alloc | apply pw_below_drewN | apply below_drew1 | refine below_set ?_ GE557.out | refine below_set ?_ GE558.out | refine below_set ?_ GE590.out | refine below_set ?_ GE603.out | refine below_set ?_ GE608.out | refine below_set ?_ GE622.out) | exact HB.out)); (case side2 => exact Kd.R_tight rfl HO_604001.out); (case side3 => exact fun k_ e_ => (HO_604001.out.1 k_ e_.symm).1.1.1.2.2.1); (case side4 => exact Kd.R_tight rfl HO_604002.out); (case side5 => exact fun k_ e_ => (HO_604002.out.1 k_ e_.symm).1.1.1.2.2.1); rintro e w128 ⟨rfl, hy0, hy1, hb, hkp⟩; refine ⟨_, rfl, ?_⟩; replace HO_591001 := Aside0.mk (Kd.R_mono (ok' := fun k_ => some k_ ≠ (.slice Ao36 t581.length co36 : Value).ownBlock ∧ some k_ ≠ (.slice Ao52 t592.length co52 : Value).ownBlock ∧ some k_ ≠ (.slice Ao53 t595.length co53 : Value).ownBlock ∧ some k_ ≠ (.slice Ao63 t605.length co63 : Value).ownBlock ∧ some k_ ≠ (.slice Ao73 t610.length co73 : Value).ownBlock ∧ some k_ ≠ (.slice Ao74 t613.length co74 : Value).ownBlock ∧ some k_ ≠ (.slice Ao107 t625.length co107 : Value).ownBlock ∧ some k_ ≠ (.slice Ao108 t628.length co108 : Value).ownBlock ∧ some k_ ≠ (.slice Ao116 t638.length co116 : Value).ownBlock) (Kd.R_keptB (HO_591001.out) hkp (fun k_ hk_ hs_ => Or.elim hs_ (fun e_ => (hk_.1.1.1.2.1) e_) (fun e_ => (hk_.1.1.1.2.2.1) e_))) (fun k_ hk_ => ⟨hk_.1.1.1.1.1, hk_.1.1.1.1.2.1, hk_.1.1.1.1.2.2.1, hk_.1.1.1.1.2.2.2.1, hk_.1.1.1.1.2.2.2.2.1, hk_.1.1.1.1.2.2.2.2.2, hk_.1.1.1.2, hk_.1.1.2, hk_.1.2⟩)); replace HO_591002 := Aside0.mk (Kd.R_mono (ok' := fun k_ => some k_ ≠ (.slice Ao34 t578.length co34 : Value).ownBlock ∧ some k_ ≠ (.slice Ao52 t592.length co52 : Value).ownBlock ∧ some k_ ≠ (.slice Ao53 t595.length co53 : Value).ownBlock ∧ some k_ ≠ (.slice Ao63 t605.length co63 : Value).ownBlock ∧ some k_ ≠ (.slice Ao73 t610.length co73 : Value).ownBlock ∧ some k_ ≠ (.slice Ao74 t613.length co74 : Value).ownBlock ∧ some k_ ≠ (.slice Ao107 t625.length co107 : Value).ownBlock ∧ some k_ ≠ (.slice Ao108 t628.length co108 : Value).ownBlock ∧ some k_ ≠ (.slice Ao116 t638.length co116 : Value).ownBlock) (Kd.R_keptB (HO_591002.out) hkp (fun k_ hk_ hs_ => Or.elim hs_ (fun e_ => (hk_.1.1.1.2.1) e_) (fun e_ => (hk_.1.1.1.2.2.1) e_))) (fun k_ hk_ => ⟨hk_.1.1.1.1.1, hk_.1.1.1.1.2.1, hk_.1.1.1.1.2.2.1, hk_.1.1.1.1.2.2.2.1, hk_.1.1.1.1.2.2.2.2.1, hk_.1.1.1.1.2.2.2.2.2, hk_.1.1.1.2, hk_.1.1.2, hk_.1.2⟩)); replace HO_609001 := Aside0.mk (Kd.R_mono (ok' := fun k_ => some k_ ≠ (.slice Ao34 t578.length co34 : Value).ownBlock ∧ some k_ ≠ (.slice Ao36 t581.length co36 : Value).ownBlock ∧ some k_ ≠ (.slice Ao52 t592.length co52 : Value).ownBlock ∧ some k_ ≠ (.slice Ao53 t595.length co53 : Value).ownBlock ∧ some k_ ≠ (.slice Ao73 t610.length co73 : Value).ownBlock ∧ some k_ ≠ (.slice Ao74 t613.length co74 : Value).ownBlock ∧ some k_ ≠ (.slice Ao107 t625.length co107 : Value).ownBlock ∧ some k_ ≠ (.slice Ao108 t628.length co108 : Value).ownBlock ∧ some k_ ≠ (.slice Ao116 t638.length co116 : Value).ownBlock) (Kd.R_keptB (HO_609001.out) hkp (fun k_ hk_ hs_ => Or.elim hs_ (fun e_ => (hk_.1.1.1.2.2.1) e_) (fun e_ => (hk_.1.1.1.2.2.2.1) e_))) (fun k_ hk_ => ⟨hk_.1.1.1.1.1, hk_.1.1.1.1.2.1, hk_.1.1.1.1.2.2.1, hk_.1.1.1.1.2.2.2.1, hk_.1.1.1.1.2.2.2.2.1, hk_.1.1.1.1.2.2.2.2.2, hk_.1.1.1.2, hk_.1.1.2, hk_.1.2⟩)); replace HO_623001 := Aside0.mk (Kd.R_mono (ok' := fun k_ => some k_ ≠ (.slice Ao34 t578.length co34 : Value).ownBlock ∧ some k_ ≠ (.slice Ao36 t581.length co36 : Value).ownBlock ∧ some k_ ≠ (.slice Ao52 t592.length co52 : Value).ownBlock ∧ some k_ ≠ (.slice Ao53 t595.length co53 : Value).ownBlock ∧ some k_ ≠ (.slice Ao63 t605.length co63 : Value).ownBlock ∧ some k_ ≠ (.slice Ao74 t613.length co74 : Value).ownBlock ∧ some k_ ≠ (.slice Ao107 t625.length co107 : Value).ownBlock ∧ some k_ ≠ (.slice Ao108 t628.length co108 : Value).ownBlock ∧ some k_ ≠ (.slice Ao116 t638.length co116 : Value).ownBlock) (Kd.R_keptB (HO_623001.out) hkp (fun k_ hk_ hs_ => Or.elim hs_ (fun e_ => (hk_.1.1.1.2.2.1) e_) (fun e_ => (hk_.1.1.1.2.2.2.1) e_))) (fun k_ hk_ => ⟨hk_.1.1.1.1.1, hk_.1.1.1.1.2.1, hk_.1.1.1.1.2.2.1, hk_.1.1.1.1.2.2.2.1, hk_.1.1.1.1.2.2.2.2.1, hk_.1.1.1.1.2.2.2.2.2, hk_.1.1.1.2, hk_.1.1.2, hk_.1.2⟩)); replace HO_623002 := Aside0.mk (Kd.R_mono (ok' := fun k_ => some k_ ≠ (.slice Ao34 t578.length co34 : Value).ownBlock ∧ some k_ ≠ (.slice Ao36 t581.length co36 : Value).ownBlock ∧ some k_ ≠ (.slice Ao52 t592.length co52 : Value).ownBlock ∧ some k_ ≠ (.slice Ao53 t595.length co53 : Value).ownBlock ∧ some k_ ≠ (.slice Ao63 t605.length co63 : Value).ownBlock ∧ some k_ ≠ (.slice Ao73 t610.length co73 : Value).ownBlock ∧ some k_ ≠ (.slice Ao107 t625.length co107 : Value).ownBlock ∧ some k_ ≠ (.slice Ao108 t628.length co108 : Value).ownBlock ∧ some k_ ≠ (.slice Ao116 t638.length co116 : Value).ownBlock) (Kd.R_keptB (HO_623002.out) hkp (fun k_ hk_ hs_ => Or.elim hs_ (fun e_ => (hk_.1.1.1.2.2.1) e_) (fun e_ => (hk_.1.1.1.2.2.2.1) e_))) (fun k_ hk_ => ⟨hk_.1.1.1.1.1, hk_.1.1.1.1.2.1, hk_.1.1.1.1.2.2.1, hk_.1.1.1.1.2.2.2.1, hk_.1.1.1.1.2.2.2.2.1, hk_.1.1.1.1.2.2.2.2.2, hk_.1.1.1.2, hk_.1.1.2, hk_.1.2⟩)); replace BK557 := Aside0.mk (blk_kept (bk BK557) hkp (fun hs_ => Or.elim hs_ (fun e_ => (fun e_ => (Kd.R_ne HO_604001.out BK557.out (by decide)) e_) e_) (fun e_ => (fun e_ => (Kd.R_ne HO_604002.out BK557.out (by decide)) e_) e_))); replace BK558 := Aside0.mk (blk_kept (bk BK558) hkp (fun hs_ => Or.elim hs_ (fun e_ => (fun e_ => (Kd.R_ne HO_604001.out BK558.out (by decide)) e_) e_) (fun e_ => (fun e_ => (Kd.R_ne HO_604002.out BK558.out (by decide)) e_) e_))); replace BK590 := Aside0.mk (blk_kept (bk BK590) hkp (fun hs_ => Or.elim hs_ (fun e_ => (fun e_ => (Kd.R_ne HO_604001.out BK590.out (by decide)) e_) e_) (fun e_ => (fun e_ => (Kd.R_ne HO_604002.out BK590.out (by decide)) e_) e_))); replace BK603 := Aside0.mk (blk_kept (bk BK603) hkp (fun hs_ => Or.elim hs_ (fun e_ => (fun e_ => (Kd.R_ne HO_604001.out BK603.out (by decide)) e_) e_) (fun e_ => (fun e_ => (Kd.R_ne HO_604002.out BK603.out (by decide)) e_) e_))); replace BK608 := Aside0.mk (blk_kept (bk BK608) hkp (fun hs_ => Or.elim hs_ (fun e_ => (fun e_ => (Kd.R_ne HO_604001.out BK608.out (by decide)) e_) e_) (fun e_ => (fun e_ => (Kd.R_ne HO_604002.out BK608.out (by decide)) e_) e_))); replace BK622 := Aside0.mk (blk_kept (bk BK622) hkp (fun hs_ => Or.elim hs_ (fun e_ => (fun e_ => (Kd.R_ne HO_604001.out BK622.out (by decide)) e_) e_) (fun e_ => (fun e_ => (Kd.R_ne HO_604002.out BK622.out (by decide)) e_) e_))); replace HO_604001 := Aside0.mk (Kd.R_reok rfl hy0 (fun k_ e_ => HO_604001.out.1 k_ e_)); replace HO_604002 := Aside0.mk (Kd.R_reok rfl hy1 (fun k_ e_ => HO_604002.out.1 k_ e_)); replace HO627 := Aside0.mk (Kd.R_mono (ok' := fun k_ => some k_ ≠ (.slice Ao34 t578.length co34 : Value).ownBlock ∧ some k_ ≠ (.slice Ao36 t581.length co36 : Value).ownBlock ∧ some k_ ≠ (.slice Ao52 t592.length co52 : Value).ownBlock ∧ some k_ ≠ (.slice Ao53 t595.length co53 : Value).ownBlock ∧ some k_ ≠ (.slice Ao63 t605.length co63 : Value).ownBlock ∧ some k_ ≠ (.slice Ao73 t610.length co73 : Value).ownBlock ∧ some k_ ≠ (.slice Ao74 t613.length co74 : Value).ownBlock ∧ some k_ ≠ (.slice Ao108 t628.length co108 : Value).ownBlock ∧ some k_ ≠ (.slice Ao116 t638.length co116 : Value).ownBlock) (Kd.R_keptB (HO627.out) hkp (fun k_ hk_ hs_ => Or.elim hs_ (fun e_ => (hk_.1.1.1.1.1.2) e_) (fun e_ => (hk_.1.1.1.1.2) e_))) (fun k_ hk_ => ⟨hk_.1.1.1.1.1.1.1.1.2, hk_.1.1.1.1.1.1.1.2, hk_.1.1.1.1.1.1.2, hk_.1.1.1.1.1.2, hk_.1.1.1.1.2, hk_.1.1.1.2, hk_.1.1.2, hk_.1.1.1.1.1.1.1.1.1, hk_.1.2⟩)); replace HO630 := Aside0.mk (Kd.R_mono (ok' := fun k_ => some k_ ≠ (.slice Ao34 t578.length co34 : Value).ownBlock ∧ some k_ ≠ (.slice Ao36 t581.length co36 : Value).ownBlock ∧ some k_ ≠ (.slice Ao52 t592.length co52 : Value).ownBlock ∧ some k_ ≠ (.slice Ao53 t595.length co53 : Value).ownBlock ∧ some k_ ≠ (.slice Ao63 t605.length co63 : Value).ownBlock ∧ some k_ ≠ (.slice Ao73 t610.length co73 : Value).ownBlock ∧ some k_ ≠ (.slice Ao74 t613.length co74 : Value).ownBlock ∧ some k_ ≠ (.slice Ao107 t625.length co107 : Value).ownBlock ∧ some k_ ≠ (.slice Ao116 t638.length co116 : Value).ownBlock) (Kd.R_keptB (HO630.out) hkp (fun k_ hk_ hs_ => Or.elim hs_ (fun e_ => (hk_.1.1.1.1.1.2) e_) (fun e_ => (hk_.1.1.1.1.2) e_))) (fun k_ hk_ => ⟨hk_.1.1.1.1.1.1.1.1.2, hk_.1.1.1.1.1.1.1.2, hk_.1.1.1.1.1.1.2, hk_.1.1.1.1.1.2, hk_.1.1.1.1.2, hk_.1.1.1.2, hk_.1.1.2, hk_.1.1.1.1.1.1.1.1.1, hk_.1.2⟩)); replace HO640 := Aside0.mk (Kd.R_mono (ok' := fun k_ => some k_ ≠ (.slice Ao34 t578.length co34 : Value).ownBlock ∧ some k_ ≠ (.slice Ao36 t581.length co36 : Value).ownBlock ∧ some k_ ≠ (.slice Ao52 t592.length co52 : Value).ownBlock ∧ some k_ ≠ (.slice Ao53 t595.length co53 : Value).ownBlock ∧ some k_ ≠ (.slice Ao63 t605.length co63 : Value).ownBlock ∧ some k_ ≠ (.slice Ao73 t610.length co73 : Value).ownBlock ∧ some k_ ≠ (.slice Ao74 t613.length co74 : Value).ownBlock ∧ some k_ ≠ (.slice Ao107 t625.length co107 : Value).ownBlock ∧ some k_ ≠ (.slice Ao108 t628.length co108 : Value).ownBlock) (Kd.R_keptB (HO640.out) hkp (fun k_ hk_ hs_ => Or.elim hs_ (fun e_ => (hk_.1.1.1.1.1.1.2) e_) (fun e_ => (hk_.1.1.1.1.1.2) e_))) (fun k_ hk_ => ⟨hk_.1.1.1.1.1.1.1.1.1.2, hk_.1.1.1.1.1.1.1.1.2, hk_.1.1.1.1.1.1.1.2, hk_.1.1.1.1.1.1.2, hk_.1.1.1.1.1.2, hk_.1.1.1.1.2, hk_.1.1.1.2, hk_.1.1.2, hk_.1.2⟩)); replace HB := Aside0.mk (hb); (try clear hb); (try clear hkp); (try clear hy0); (try clear hy1); have hnb129 := NB608_557.out; have hnc129 := NB557_608.out; have hnb130 := NB608_558.out; have hnc130 := NB558_608.out; have hnb131 := NB608_590.out; have hnc131 := NB590_608.out; have hnb132 := NB608_622.out; have hnc132 := NB622_608.out; obtain ⟨z133_0, z133_1⟩ := ca2 BK608; obtain ⟨f133_0, f133_1⟩ := fa2 BK608) | ((with_reducible refine gf 21 ?_); refine gl 21 Tryd.func21 (some 69) #[.agg #[.int .i64 t604, .slice Ao63 t605.length co63], .int .i64 t642] ?_; (with_reducible refine (laws_markReq.calls _ _ (fun k_ => some k_ = (.slice Ao63 t605.length co63 : Value).ownBlock) _ _ _ _ _ w _ ?side1 ?side2 A120.out).mono ?_); (case side1 => repeat (first | (with_reducible first | exact HB.out | apply below_alloc | apply pw_below_drewN | apply below_drew1 | refine below_set ?_ GE557.out | refine below_set ?_ GE558.out | refine below_set ?_ GE590.out | refine below_set ?_ GE603.out | refine below_set ?_ GE608.out | refine below_set ?_ GE622.out) | exact HB.out)); (case side2 => exact Kd.R_tight rfl HO_609001.out); rintro e w134 ⟨rfl, hy0, hb, hkp⟩; refine ⟨_, rfl, ?_⟩; replace HO_591001 := Aside0.mk (Kd.R_mono (ok' := fun k_ => some k_ ≠ (.slice Ao36 t581.length co36 : Value).ownBlock ∧ some k_ ≠ (.slice Ao52 t592.length co52 : Value).ownBlock ∧ some k_ ≠ (.slice Ao53 t595.length co53 : Value).ownBlock ∧ some k_ ≠ (.slice Ao63 t605.length co63 : Value).ownBlock ∧ some k_ ≠ (.slice Ao73 t610.length co73 : Value).ownBlock ∧ some k_ ≠ (.slice Ao74 t613.length co74 : Value).ownBlock ∧ some k_ ≠ (.slice Ao107 t625.length co107 : Value).ownBlock ∧ some k_ ≠ (.slice Ao108 t628.length co108 : Value).ownBlock ∧ some k_ ≠ (.slice Ao116 t638.length co116 : Value).ownBlock) (Kd.R_keptB (HO_591001.out) hkp (fun k_ hk_ hs_ => (hk_.2.2.2.1) hs_)) (fun k_ hk_ => ⟨hk_.1.1, hk_.1.2.1, hk_.1.2.2.1, hk_.1.2.2.2.1, hk_.1.2.2.2.2.1, hk_.1.2.2.2.2.2.1, hk_.1.2.2.2.2.2.2.1, hk_.1.2.2.2.2.2.2.2.1, hk_.1.2.2.2.2.2.2.2.2⟩)); replace HO_591002 := Aside0.mk (Kd.R_mono (ok' := fun k_ => some k_ ≠ (.slice Ao34 t578.length co34 : Value).ownBlock ∧ some k_ ≠ (.slice Ao52 t592.length co52 : Value).ownBlock ∧ some k_ ≠ (.slice Ao53 t595.length co53 : Value).ownBlock ∧ some k_ ≠ (.slice Ao63 t605.length co63 : Value).ownBlock ∧ some k_ ≠ (.slice Ao73 t610.length co73 : Value).ownBlock ∧ some k_ ≠ (.slice Ao74 t613.length co74 : Value).ownBlock ∧ some k_ ≠ (.slice Ao107 t625.length co107 : Value).ownBlock ∧ some k_ ≠ (.slice Ao108 t628.length co108 : Value).ownBlock ∧ some k_ ≠ (.slice Ao116 t638.length co116 : Value).ownBlock) (Kd.R_keptB (HO_591002.out) hkp (fun k_ hk_ hs_ => (hk_.2.2.2.1) hs_)) (fun k_ hk_ => ⟨hk_.1.1, hk_.1.2.1, hk_.1.2.2.1, hk_.1.2.2.2.1, hk_.1.2.2.2.2.1, hk_.1.2.2.2.2.2.1, hk_.1.2.2.2.2.2.2.1, hk_.1.2.2.2.2.2.2.2.1, hk_.1.2.2.2.2.2.2.2.2⟩)); replace HO_604001 := Aside0.mk (Kd.R_mono (ok' := fun k_ => some k_ ≠ (.slice Ao34 t578.length co34 : Value).ownBlock ∧ some k_ ≠ (.slice Ao36 t581.length co36 : Value).ownBlock ∧ some k_ ≠ (.slice Ao53 t595.length co53 : Value).ownBlock ∧ some k_ ≠ (.slice Ao63 t605.length co63 : Value).ownBlock ∧ some k_ ≠ (.slice Ao73 t610.length co73 : Value).ownBlock ∧ some k_ ≠ (.slice Ao74 t613.length co74 : Value).ownBlock ∧ some k_ ≠ (.slice Ao107 t625.length co107 : Value).ownBlock ∧ some k_ ≠ (.slice Ao108 t628.length co108 : Value).ownBlock ∧ some k_ ≠ (.slice Ao116 t638.length co116 : Value).ownBlock) (Kd.R_keptB (HO_604001.out) hkp (fun k_ hk_ hs_ => (hk_.1.1.1.2.2.2.1) hs_)) (fun k_ hk_ => ⟨hk_.1.1.1.1.1, hk_.1.1.1.1.2.1, hk_.1.1.1.1.2.2.1, hk_.1.1.1.1.2.2.2.1, hk_.1.1.1.1.2.2.2.2.1, hk_.1.1.1.1.2.2.2.2.2, hk_.1.1.1.2, hk_.1.1.2, hk_.1.2⟩)); replace HO_604002 := Aside0.mk (Kd.R_mono (ok' := fun k_ => some k_ ≠ (.slice Ao34 t578.length co34 : Value).ownBlock ∧ some k_ ≠ (.slice Ao36 t581.length co36 : Value).ownBlock ∧ some k_ ≠ (.slice Ao52 t592.length co52 : Value).ownBlock ∧ some k_ ≠ (.slice Ao63 t605.length co63 : Value).ownBlock ∧ some k_ ≠ (.slice Ao73 t610.length co73 : Value).ownBlock ∧ some k_ ≠ (.slice Ao74 t613.length co74 : Value).ownBlock ∧ some k_ ≠ (.slice Ao107 t625.length co107 : Value).ownBlock ∧ some k_ ≠ (.slice Ao108 t628.length co108 : Value).ownBlock ∧ some k_ ≠ (.slice Ao116 t638.length co116 : Value).ownBlock) (Kd.R_keptB (HO_604002.out) hkp (fun k_ hk_ hs_ => (hk_.1.1.1.2.2.2.1) hs_)) (fun k_ hk_ => ⟨hk_.1.1.1.1.1, hk_.1.1.1.1.2.1, hk_.1.1.1.1.2.2.1, hk_.1.1.1.1.2.2.2.1, hk_.1.1.1.1.2.2.2.2.1, hk_.1.1.1.1.2.2.2.2.2, hk_.1.1.1.2, hk_.1.1.2, hk_.1.2⟩)); replace HO_623001 := Aside0.mk (Kd.R_mono (ok' := fun k_ => some k_ ≠ (.slice Ao34 t578.length co34 : Value).ownBlock ∧ some k_ ≠ (.slice Ao36 t581.length co36 : Value).ownBlock ∧ some k_ ≠ (.slice Ao52 t592.length co52 : Value).ownBlock ∧ some k_ ≠ (.slice Ao53 t595.length co53 : Value).ownBlock ∧ some k_ ≠ (.slice Ao63 t605.length co63 : Value).ownBlock ∧ some k_ ≠ (.slice Ao74 t613.length co74 : Value).ownBlock ∧ some k_ ≠ (.slice Ao107 t625.length co107 : Value).ownBlock ∧ some k_ ≠ (.slice Ao108 t628.length co108 : Value).ownBlock ∧ some k_ ≠ (.slice Ao116 t638.length co116 : Value).ownBlock) (Kd.R_keptB (HO_623001.out) hkp (fun k_ hk_ hs_ => (hk_.2.2.2.2.1) hs_)) (fun k_ hk_ => ⟨hk_.1.1, hk_.1.2.1, hk_.1.2.2.1, hk_.1.2.2.2.1, hk_.1.2.2.2.2.1, hk_.1.2.2.2.2.2.1, hk_.1.2.2.2.2.2.2.1, hk_.1.2.2.2.2.2.2.2.1, hk_.1.2.2.2.2.2.2.2.2⟩)); replace HO_623002 := Aside0.mk (Kd.R_mono (ok' := fun k_ => some k_ ≠ (.slice Ao34 t578.length co34 : Value).ownBlock ∧ some k_ ≠ (.slice Ao36 t581.length co36 : Value).ownBlock ∧ some k_ ≠ (.slice Ao52 t592.length co52 : Value).ownBlock ∧ some k_ ≠ (.slice Ao53 t595.length co53 : Value).ownBlock ∧ some k_ ≠ (.slice Ao63 t605.length co63 : Value).ownBlock ∧ some k_ ≠ (.slice Ao73 t610.length co73 : Value).ownBlock ∧ some k_ ≠ (.slice Ao107 t625.length co107 : Value).ownBlock ∧ some k_ ≠ (.slice Ao108 t628.length co108 : Value).ownBlock ∧ some k_ ≠ (.slice Ao116 t638.length co116 : Value).ownBlock) (Kd.R_keptB (HO_623002.out) hkp (fun k_ hk_ hs_ => (hk_.2.2.2.2.1) hs_)) (fun k_ hk_ => ⟨hk_.1.1, hk_.1.2.1, hk_.1.2.2.1, hk_.1.2.2.2.1, hk_.1.2.2.2.2.1, hk_.1.2.2.2.2.2.1, hk_.1.2.2.2.2.2.2.1, hk_.1.2.2.2.2.2.2.2.1, hk_.1.2.2.2.2.2.2.2.2⟩)); replace BK557 := Aside0.mk (blk_kept (bk BK557) hkp (fun hs_ => (fun e_ => (Kd.R_ne HO_609001.out BK557.out (by decide)) e_) hs_)); replace BK558 := Aside0.mk (blk_kept (bk BK558) hkp (fun hs_ => (fun e_ => (Kd.R_ne HO_609001.out BK558.out (by decide)) e_) hs_)); replace BK590 := Aside0.mk (blk_kept (bk BK590) hkp (fun hs_ => (fun e_ => (Kd.R_ne HO_609001.out BK590.out (by decide)) e_) hs_)); replace BK603 := Aside0.mk (blk_kept (bk BK603) hkp (fun hs_ => (fun e_ => (Kd.R_ne HO_609001.out BK603.out (by decide)) e_) hs_)); replace BK608 := Aside0.mk (blk_kept (bk BK608) hkp (fun hs_ => (fun e_ => (Kd.R_ne HO_609001.out BK608.out (by decide)) e_) hs_)); replace BK622 := Aside0.mk (blk_kept (bk BK622) hkp (fun hs_ => (fun e_ => (Kd.R_ne HO_609001.out BK622.out (by decide)) e_) hs_)); replace HO_609001 := Aside0.mk (Kd.R_reok rfl hy0 (fun k_ e_ => HO_609001.out.1 k_ e_)); replace HO627 := Aside0.mk (Kd.R_mono (ok' := fun k_ => some k_ ≠ (.slice Ao34 t578.length co34 : Value).ownBlock ∧ some k_ ≠ (.slice Ao36 t581.length co36 : Value).ownBlock ∧ some k_ ≠ (.slice Ao52 t592.length co52 : Value).ownBlock ∧ some k_ ≠ (.slice Ao53 t595.length co53 : Value).ownBlock ∧ some k_ ≠ (.slice Ao63 t605.length co63 : Value).ownBlock ∧ some k_ ≠ (.slice Ao73 t610.length co73 : Value).ownBlock ∧ some k_ ≠ (.slice Ao74 t613.length co74 : Value).ownBlock ∧ some k_ ≠ (.slice Ao108 t628.length co108 : Value).ownBlock ∧ some k_ ≠ (.slice Ao116 t638.length co116 : Value).ownBlock) (Kd.R_keptB (HO627.out) hkp (fun k_ hk_ hs_ => (hk_.2.2.2.2.1) hs_)) (fun k_ hk_ => ⟨hk_.1.1, hk_.1.2.1, hk_.1.2.2.1, hk_.1.2.2.2.1, hk_.1.2.2.2.2.1, hk_.1.2.2.2.2.2.1, hk_.1.2.2.2.2.2.2.1, hk_.1.2.2.2.2.2.2.2.1, hk_.1.2.2.2.2.2.2.2.2⟩)); replace HO630 := Aside0.mk (Kd.R_mono (ok' := fun k_ => some k_ ≠ (.slice Ao34 t578.length co34 : Value).ownBlock ∧ some k_ ≠ (.slice Ao36 t581.length co36 : Value).ownBlock ∧ some k_ ≠ (.slice Ao52 t592.length co52 : Value).ownBlock ∧ some k_ ≠ (.slice Ao53 t595.length co53 : Value).ownBlock ∧ some k_ ≠ (.slice Ao63 t605.length co63 : Value).ownBlock ∧ some k_ ≠ (.slice Ao73 t610.length co73 : Value).ownBlock ∧ some k_ ≠ (.slice Ao74 t613.length co74 : Value).ownBlock ∧ some k_ ≠ (.slice Ao107 t625.length co107 : Value).ownBlock ∧ some k_ ≠ (.slice Ao116 t638.length co116 : Value).ownBlock) (Kd.R_keptB (HO630.out) hkp (fun k_ hk_ hs_ => (hk_.2.2.2.2.1) hs_)) (fun k_ hk_ => ⟨hk_.1.1, hk_.1.2.1, hk_.1.2.2.1, hk_.1.2.2.2.1, hk_.1.2.2.2.2.1, hk_.1.2.2.2.2.2.1, hk_.1.2.2.2.2.2.2.1, hk_.1.2.2.2.2.2.2.2.1, hk_.1.2.2.2.2.2.2.2.2⟩)); replace HO640 := Aside0.mk (Kd.R_mono (ok' := fun k_ => some k_ ≠ (.slice Ao34 t578.length co34 : Value).ownBlock ∧ some k_ ≠ (.slice Ao36 t581.length co36 : Value).ownBlock ∧ some k_ ≠ (.slice Ao52 t592.length co52 : Value).ownBlock ∧ some k_ ≠ (.slice Ao53 t595.length co53 : Value).ownBlock ∧ some k_ ≠ (.slice Ao63 t605.length co63 : Value).ownBlock ∧ some k_ ≠ (.slice Ao73 t610.length co73 : Value).ownBlock ∧ some k_ ≠ (.slice Ao74 t613.length co74 : Value).ownBlock ∧ some k_ ≠ (.slice Ao107 t625.length co107 : Value).ownBlock ∧ some k_ ≠ (.slice Ao108 t628.length co108 : Value).ownBlock) (Kd.R_keptB (HO640.out) hkp (fun k_ hk_ hs_ => (hk_.2.2.2.2.1) hs_)) (fun k_ hk_ => ⟨hk_.1.1, hk_.1.2.1, hk_.1.2.2.1, hk_.1.2.2.2.1, hk_.1.2.2.2.2.1, hk_.1.2.2.2.2.2.1, hk_.1.2.2.2.2.2.2.1, hk_.1.2.2.2.2.2.2.2.1, hk_.1.2.2.2.2.2.2.2.2⟩)); replace HB := Aside0.mk (hb); (try clear hb); (try clear hkp); (try clear hy0)))
        (try refine ap ?_)
        go_cut [82] (fun v82 wc => ∃ (kq : Nat) (x82_120 : Bool), v82 = .bool x82_120 ∧ Aside0 (laws_FnExactWarpSubmit.j1 kq t589 x82_120 a0_0 l0_1 l0_2 a0_3 a0_4 a0_5 a0_6 a0_7 a1_0 l1_1 t577 t578 t581 t584 t585 t586 t587 t588 t609 t610 t613 t616 t617 t618 t619 t620 = some r) ∧ Aside0 (kq ≤ kj22) ∧ Aside0 (Kd.R (Kd.int .i64) 3 wc w.heap.size (fun k_ => some k_ ≠ ((.slice Ao36 t581.length co36) : Value).ownBlock ∧ some k_ ≠ ((.slice Ao52 t592.length co52) : Value).ownBlock ∧ some k_ ≠ ((.slice Ao53 t595.length co53) : Value).ownBlock ∧ some k_ ≠ ((.slice Ao63 t605.length co63) : Value).ownBlock ∧ some k_ ≠ ((.slice Ao73 t610.length co73) : Value).ownBlock ∧ some k_ ≠ ((.slice Ao74 t613.length co74) : Value).ownBlock) (.slice Ao34 t578.length co34) t578) ∧ Aside0 (Kd.R (Kd.int .i64) 3 wc w.heap.size (fun k_ => some k_ ≠ ((.slice Ao34 t578.length co34) : Value).ownBlock ∧ some k_ ≠ ((.slice Ao52 t592.length co52) : Value).ownBlock ∧ some k_ ≠ ((.slice Ao53 t595.length co53) : Value).ownBlock ∧ some k_ ≠ ((.slice Ao63 t605.length co63) : Value).ownBlock ∧ some k_ ≠ ((.slice Ao73 t610.length co73) : Value).ownBlock ∧ some k_ ≠ ((.slice Ao74 t613.length co74) : Value).ownBlock) (.slice Ao36 t581.length co36) t581) ∧ Aside0 (Kd.R (Kd.int .i64) 3 wc w.heap.size (fun k_ => some k_ ≠ ((.slice Ao34 t578.length co34) : Value).ownBlock ∧ some k_ ≠ ((.slice Ao36 t581.length co36) : Value).ownBlock ∧ some k_ ≠ ((.slice Ao53 t595.length co53) : Value).ownBlock ∧ some k_ ≠ ((.slice Ao63 t605.length co63) : Value).ownBlock ∧ some k_ ≠ ((.slice Ao73 t610.length co73) : Value).ownBlock ∧ some k_ ≠ ((.slice Ao74 t613.length co74) : Value).ownBlock) (.slice Ao52 t592.length co52) t643) ∧ Aside0 (Kd.R (Kd.int .i64) 3 wc w.heap.size (fun k_ => some k_ ≠ ((.slice Ao34 t578.length co34) : Value).ownBlock ∧ some k_ ≠ ((.slice Ao36 t581.length co36) : Value).ownBlock ∧ some k_ ≠ ((.slice Ao52 t592.length co52) : Value).ownBlock ∧ some k_ ≠ ((.slice Ao63 t605.length co63) : Value).ownBlock ∧ some k_ ≠ ((.slice Ao73 t610.length co73) : Value).ownBlock ∧ some k_ ≠ ((.slice Ao74 t613.length co74) : Value).ownBlock) (.slice Ao53 t595.length co53) t644) ∧ Aside0 (Kd.R (Kd.int .i64) 3 wc w.heap.size (fun k_ => some k_ ≠ ((.slice Ao34 t578.length co34) : Value).ownBlock ∧ some k_ ≠ ((.slice Ao36 t581.length co36) : Value).ownBlock ∧ some k_ ≠ ((.slice Ao52 t592.length co52) : Value).ownBlock ∧ some k_ ≠ ((.slice Ao53 t595.length co53) : Value).ownBlock ∧ some k_ ≠ ((.slice Ao73 t610.length co73) : Value).ownBlock ∧ some k_ ≠ ((.slice Ao74 t613.length co74) : Value).ownBlock) (.slice Ao63 t605.length co63) t646) ∧ Aside0 (Kd.R (Kd.int .i64) 3 wc w.heap.size (fun k_ => some k_ ≠ ((.slice Ao34 t578.length co34) : Value).ownBlock ∧ some k_ ≠ ((.slice Ao36 t581.length co36) : Value).ownBlock ∧ some k_ ≠ ((.slice Ao52 t592.length co52) : Value).ownBlock ∧ some k_ ≠ ((.slice Ao53 t595.length co53) : Value).ownBlock ∧ some k_ ≠ ((.slice Ao63 t605.length co63) : Value).ownBlock ∧ some k_ ≠ ((.slice Ao74 t613.length co74) : Value).ownBlock) (.slice Ao73 t610.length co73) t610) ∧ Aside0 (Kd.R (Kd.int .i64) 3 wc w.heap.size (fun k_ => some k_ ≠ ((.slice Ao34 t578.length co34) : Value).ownBlock ∧ some k_ ≠ ((.slice Ao36 t581.length co36) : Value).ownBlock ∧ some k_ ≠ ((.slice Ao52 t592.length co52) : Value).ownBlock ∧ some k_ ≠ ((.slice Ao53 t595.length co53) : Value).ownBlock ∧ some k_ ≠ ((.slice Ao63 t605.length co63) : Value).ownBlock ∧ some k_ ≠ ((.slice Ao73 t610.length co73) : Value).ownBlock) (.slice Ao74 t613.length co74) t613) ∧ Aside0 (wc.heap[gb557]? = some (.cells #[.int .i64 a0_0, (.slice A0_1 l0_1.length c0_1), (.slice A0_2 l0_2.length c0_2), .int .u32 a0_3, .int .i64 a0_4, .int .i64 a0_5, .int .i64 a0_6, .int .u32 a0_7] 25 (0, 0))) ∧ Aside0 (wc.heap[gb558]? = some (.cells #[.int .i64 a1_0, (.slice A1_1 l1_1.length c1_1)] 35 (0, 0))) ∧ Aside0 (wc.heap[gb590]? = some (.cells #[.int .i64 t577, (.slice Ao34 t578.length co34), (.slice Ao36 t581.length co36), .int .u32 t584, .int .i64 t585, .int .i64 t586, .int .i64 t587, .int .u32 t588] 28 (0, 0))) ∧ Aside0 (wc.heap[gb603]? = some (.cells #[.int .i64 t591, (.slice Ao52 t592.length co52), (.slice Ao53 t595.length co53), .int .u32 t598, .int .i64 t599, .int .i64 t600, .int .i64 t601, .int .u32 t602] 28 (0, 0))) ∧ Aside0 (wc.heap[gb608]? = some (.cells #[.int .i64 t604, (.slice Ao63 t605.length co63)] 39 (0, 0))) ∧ Aside0 (wc.heap[gb622]? = some (.cells #[.int .i64 t609, (.slice Ao73 t610.length co73), (.slice Ao74 t613.length co74), .int .u32 t616, .int .i64 t617, .int .i64 t618, .int .i64 t619, .int .u32 t620] 28 (0, 0))) ∧ Aside0 (Below w.heap.size w wc))
        case first => as_aux_lemma =>
         have H := HC121.out
         clear HC121
         replace H := ilt H
         rcases H with ⟨c135b0, H⟩ | ⟨c135b0, H⟩
         ·(first | rw [c135b0] | (simp only [i64_w, i32_w]; rw [c135b0]) | (simp only [c135b2, Bool.not_true, Bool.not_false]) | (simp only [c135b1, Bool.not_true, Bool.not_false]) | skip)
          have H' := Aside0.mk H
          clear H
          go_wp2
          go_meet
          case rel => exact ⟨_, (true), ev, H', ⟨by have := HJ22.out; first | omega | exact Nat.le_refl _⟩, ⟨by (with_reducible repeat (first | apply Kd.R_alloc | apply Kd.R_drewN | apply Kd.R_drew)); exact Kd.R_mono HO_591001.out (fun _ hk => ⟨hk.1, ⟨hk.2.1, ⟨hk.2.2.1, ⟨hk.2.2.2.1, ⟨hk.2.2.2.2.1, hk.2.2.2.2.2.1⟩⟩⟩⟩⟩)⟩, ⟨by (with_reducible repeat (first | apply Kd.R_alloc | apply Kd.R_drewN | apply Kd.R_drew)); exact Kd.R_mono HO_591002.out (fun _ hk => ⟨hk.1, ⟨hk.2.1, ⟨hk.2.2.1, ⟨hk.2.2.2.1, ⟨hk.2.2.2.2.1, hk.2.2.2.2.2.1⟩⟩⟩⟩⟩)⟩, ⟨by (with_reducible repeat (first | apply Kd.R_alloc | apply Kd.R_drewN | apply Kd.R_drew)); exact Kd.R_mono HO_604001.out (fun _ hk => ⟨hk.1, ⟨hk.2.1, ⟨hk.2.2.1, ⟨hk.2.2.2.1, ⟨hk.2.2.2.2.1, hk.2.2.2.2.2.1⟩⟩⟩⟩⟩)⟩, ⟨by (with_reducible repeat (first | apply Kd.R_alloc | apply Kd.R_drewN | apply Kd.R_drew)); exact Kd.R_mono HO_604002.out (fun _ hk => ⟨hk.1, ⟨hk.2.1, ⟨hk.2.2.1, ⟨hk.2.2.2.1, ⟨hk.2.2.2.2.1, hk.2.2.2.2.2.1⟩⟩⟩⟩⟩)⟩, ⟨by (with_reducible repeat (first | apply Kd.R_alloc | apply Kd.R_drewN | apply Kd.R_drew)); exact Kd.R_mono HO_609001.out (fun _ hk => ⟨hk.1, ⟨hk.2.1, ⟨hk.2.2.1, ⟨hk.2.2.2.1, ⟨hk.2.2.2.2.1, hk.2.2.2.2.2.1⟩⟩⟩⟩⟩)⟩, ⟨by (with_reducible repeat (first | apply Kd.R_alloc | apply Kd.R_drewN | apply Kd.R_drew)); exact Kd.R_mono HO_623001.out (fun _ hk => ⟨hk.1, ⟨hk.2.1, ⟨hk.2.2.1, ⟨hk.2.2.2.1, ⟨hk.2.2.2.2.1, hk.2.2.2.2.2.1⟩⟩⟩⟩⟩)⟩, ⟨by (with_reducible repeat (first | apply Kd.R_alloc | apply Kd.R_drewN | apply Kd.R_drew)); exact Kd.R_mono HO_623002.out (fun _ hk => ⟨hk.1, ⟨hk.2.1, ⟨hk.2.2.1, ⟨hk.2.2.2.1, ⟨hk.2.2.2.2.1, hk.2.2.2.2.2.1⟩⟩⟩⟩⟩)⟩, ⟨bk BK557⟩, ⟨bk BK558⟩, ⟨bk BK590⟩, ⟨bk BK603⟩, ⟨bk BK608⟩, ⟨bk BK622⟩, ⟨bw⟩⟩
         ·(first | rw [c135b0] | (simp only [i64_w, i32_w]; rw [c135b0]) | (simp only [c135b2, Bool.not_true, Bool.not_false]) | (simp only [c135b1, Bool.not_true, Bool.not_false]) | skip)
          replace H := bn H
          obtain ⟨t647, A136, H⟩ := H
          try dsimp only at H
          replace H := ib H
          rcases H with ⟨rfl, H⟩ | ⟨rfl, H⟩
          ·have H' := Aside0.mk H
           clear H
           have hnb138 := NB622_557.out
           have hnc138 := NB557_622.out
           have hnb139 := NB622_558.out
           have hnc139 := NB558_622.out
           have hnb140 := NB622_590.out
           have hnc140 := NB590_622.out
           have hnb142 := NB622_608.out
           have hnc142 := NB608_622.out
           obtain ⟨z143_0, z143_1, z143_2, z143_3, z143_4, z143_5, z143_6, z143_7⟩ := ca8 BK622
           have hnb145 := NB590_558.out
           have hnc145 := NB558_590.out
           have hnb147 := NB590_608.out
           have hnc147 := NB608_590.out
           obtain ⟨z148_0, z148_1, z148_2, z148_3, z148_4, z148_5, z148_6, z148_7⟩ := ca8 BK590
           go_wp2_with (first | (go_at_call 12; (with_reducible refine (laws_eqWarp.calls _ _ _ _ _ _ _ _ _ _ _ _ _ _ _ _ _ _ _ _ _ _ _ _ _ _ _ ?side1 ?side2 ?side3 ?side4 ?side5 ?side6 ?side7 ?side8 A136.out).mono ?_); (case side1 => repeat (first | exact (Kd.R_reads' HO_623001.out).2.2 | (with_reducible refine Kd.C_alloc ?_ _) | (with_reducible refine Kd.C_drewN ?_ _) | (with_reducible refine Kd.C_drew ?_))); (case side2 => exact (Kd.R_reads' HO_623001.out).2.1); (case side3 => repeat (first | exact (Kd.R_reads' HO_623002.out).2.2 | (with_reducible refine Kd.C_alloc ?_ _) | (with_reducible refine Kd.C_drewN ?_ _) | (with_reducible refine Kd.C_drew ?_))); (case side4 => exact (Kd.R_reads' HO_623002.out).2.1); (case side5 => repeat (first | exact (Kd.R_reads' HO_591001.out).2.2 | (with_reducible refine Kd.C_alloc ?_ _) | (with_reducible refine Kd.C_drewN ?_ _) | (with_reducible refine Kd.C_drew ?_))); (case side6 => exact (Kd.R_reads' HO_591001.out).2.1); (case side7 => repeat (first | exact (Kd.R_reads' HO_591002.out).2.2 | (with_reducible refine Kd.C_alloc ?_ _) | (with_reducible refine Kd.C_drewN ?_ _) | (with_reducible refine Kd.C_drew ?_))); (case side8 => exact (Kd.R_reads' HO_591002.out).2.1); rintro e w149 ⟨rfl, hb⟩; replace HO_591001 := Aside0.mk (Kd.R_below (ro HO_591001) hb); replace HO_591002 := Aside0.mk (Kd.R_below (ro HO_591002) hb); replace HO_604001 := Aside0.mk (Kd.R_below (ro HO_604001) hb); replace HO_604002 := Aside0.mk (Kd.R_below (ro HO_604002) hb); replace HO_609001 := Aside0.mk (Kd.R_below (ro HO_609001) hb); replace HO_623001 := Aside0.mk (Kd.R_below (ro HO_623001) hb); replace HO_623002 := Aside0.mk (Kd.R_below (ro HO_623002) hb); replace HO627 := Aside0.mk (Kd.R_below (ro HO627) hb); replace HO630 := Aside0.mk (Kd.R_below (ro HO630) hb); replace HO640 := Aside0.mk (Kd.R_below (ro HO640) hb); replace BK557 := b_ BK557 hb; replace BK558 := b_ BK558 hb; replace BK590 := b_ BK590 hb; replace BK603 := b_ BK603 hb; replace BK608 := b_ BK608 hb; replace BK622 := b_ BK622 hb; replace HB := hs hb; try clear hb))
           go_meet
           case rel => exact ⟨_, ((t621 != t589)), ev, H', ⟨by have := HJ22.out; first | omega | exact Nat.le_refl _⟩, ⟨by (with_reducible repeat (first | apply Kd.R_alloc | apply Kd.R_drewN | apply Kd.R_drew)); exact Kd.R_mono HO_591001.out (fun _ hk => ⟨hk.1, ⟨hk.2.1, ⟨hk.2.2.1, ⟨hk.2.2.2.1, ⟨hk.2.2.2.2.1, hk.2.2.2.2.2.1⟩⟩⟩⟩⟩)⟩, ⟨by (with_reducible repeat (first | apply Kd.R_alloc | apply Kd.R_drewN | apply Kd.R_drew)); exact Kd.R_mono HO_591002.out (fun _ hk => ⟨hk.1, ⟨hk.2.1, ⟨hk.2.2.1, ⟨hk.2.2.2.1, ⟨hk.2.2.2.2.1, hk.2.2.2.2.2.1⟩⟩⟩⟩⟩)⟩, ⟨by (with_reducible repeat (first | apply Kd.R_alloc | apply Kd.R_drewN | apply Kd.R_drew)); exact Kd.R_mono HO_604001.out (fun _ hk => ⟨hk.1, ⟨hk.2.1, ⟨hk.2.2.1, ⟨hk.2.2.2.1, ⟨hk.2.2.2.2.1, hk.2.2.2.2.2.1⟩⟩⟩⟩⟩)⟩, ⟨by (with_reducible repeat (first | apply Kd.R_alloc | apply Kd.R_drewN | apply Kd.R_drew)); exact Kd.R_mono HO_604002.out (fun _ hk => ⟨hk.1, ⟨hk.2.1, ⟨hk.2.2.1, ⟨hk.2.2.2.1, ⟨hk.2.2.2.2.1, hk.2.2.2.2.2.1⟩⟩⟩⟩⟩)⟩, ⟨by (with_reducible repeat (first | apply Kd.R_alloc | apply Kd.R_drewN | apply Kd.R_drew)); exact Kd.R_mono HO_609001.out (fun _ hk => ⟨hk.1, ⟨hk.2.1, ⟨hk.2.2.1, ⟨hk.2.2.2.1, ⟨hk.2.2.2.2.1, hk.2.2.2.2.2.1⟩⟩⟩⟩⟩)⟩, ⟨by (with_reducible repeat (first | apply Kd.R_alloc | apply Kd.R_drewN | apply Kd.R_drew)); exact Kd.R_mono HO_623001.out (fun _ hk => ⟨hk.1, ⟨hk.2.1, ⟨hk.2.2.1, ⟨hk.2.2.2.1, ⟨hk.2.2.2.2.1, hk.2.2.2.2.2.1⟩⟩⟩⟩⟩)⟩, ⟨by (with_reducible repeat (first | apply Kd.R_alloc | apply Kd.R_drewN | apply Kd.R_drew)); exact Kd.R_mono HO_623002.out (fun _ hk => ⟨hk.1, ⟨hk.2.1, ⟨hk.2.2.1, ⟨hk.2.2.2.1, ⟨hk.2.2.2.2.1, hk.2.2.2.2.2.1⟩⟩⟩⟩⟩)⟩, ⟨bk BK557⟩, ⟨bk BK558⟩, ⟨bk BK590⟩, ⟨bk BK603⟩, ⟨bk BK608⟩, ⟨bk BK622⟩, ⟨bw⟩⟩
          ·have H' := Aside0.mk H
           clear H
           have hnb150 := NB622_557.out
           have hnc150 := NB557_622.out
           have hnb151 := NB622_558.out
           have hnc151 := NB558_622.out
           have hnb152 := NB622_590.out
           have hnc152 := NB590_622.out
           have hnb154 := NB622_608.out
           have hnc154 := NB608_622.out
           obtain ⟨z155_0, z155_1, z155_2, z155_3, z155_4, z155_5, z155_6, z155_7⟩ := ca8 BK622
           have hnb157 := NB590_558.out
           have hnc157 := NB558_590.out
           have hnb159 := NB590_608.out
           have hnc159 := NB608_590.out
           obtain ⟨z160_0, z160_1, z160_2, z160_3, z160_4, z160_5, z160_6, z160_7⟩ := ca8 BK590
           go_wp2_with (first | (go_at_call 12; (with_reducible refine (laws_eqWarp.calls _ _ _ _ _ _ _ _ _ _ _ _ _ _ _ _ _ _ _ _ _ _ _ _ _ _ _ ?side1 ?side2 ?side3 ?side4 ?side5 ?side6 ?side7 ?side8 A136.out).mono ?_); (case side1 => repeat (first | exact (Kd.R_reads' HO_623001.out).2.2 | (with_reducible refine Kd.C_alloc ?_ _) | (with_reducible refine Kd.C_drewN ?_ _) | (with_reducible refine Kd.C_drew ?_))); (case side2 => exact (Kd.R_reads' HO_623001.out).2.1); (case side3 => repeat (first | exact (Kd.R_reads' HO_623002.out).2.2 | (with_reducible refine Kd.C_alloc ?_ _) | (with_reducible refine Kd.C_drewN ?_ _) | (with_reducible refine Kd.C_drew ?_))); (case side4 => exact (Kd.R_reads' HO_623002.out).2.1); (case side5 => repeat (first | exact (Kd.R_reads' HO_591001.out).2.2 | (with_reducible refine Kd.C_alloc ?_ _) | (with_reducible refine Kd.C_drewN ?_ _) | (with_reducible refine Kd.C_drew ?_))); (case side6 => exact (Kd.R_reads' HO_591001.out).2.1); (case side7 => repeat (first | exact (Kd.R_reads' HO_591002.out).2.2 | (with_reducible refine Kd.C_alloc ?_ _) | (with_reducible refine Kd.C_drewN ?_ _) | (with_reducible refine Kd.C_drew ?_))); (case side8 => exact (Kd.R_reads' HO_591002.out).2.1); rintro e w161 ⟨rfl, hb⟩; replace HO_591001 := Aside0.mk (Kd.R_below (ro HO_591001) hb); replace HO_591002 := Aside0.mk (Kd.R_below (ro HO_591002) hb); replace HO_604001 := Aside0.mk (Kd.R_below (ro HO_604001) hb); replace HO_604002 := Aside0.mk (Kd.R_below (ro HO_604002) hb); replace HO_609001 := Aside0.mk (Kd.R_below (ro HO_609001) hb); replace HO_623001 := Aside0.mk (Kd.R_below (ro HO_623001) hb); replace HO_623002 := Aside0.mk (Kd.R_below (ro HO_623002) hb); replace HO627 := Aside0.mk (Kd.R_below (ro HO627) hb); replace HO630 := Aside0.mk (Kd.R_below (ro HO630) hb); replace HO640 := Aside0.mk (Kd.R_below (ro HO640) hb); replace BK557 := b_ BK557 hb; replace BK558 := b_ BK558 hb; replace BK590 := b_ BK590 hb; replace BK603 := b_ BK603 hb; replace BK608 := b_ BK608 hb; replace BK622 := b_ BK622 hb; replace HB := hs hb; try clear hb))
           go_meet
           case rel => exact ⟨_, (true), ev, H', ⟨by have := HJ22.out; first | omega | exact Nat.le_refl _⟩, ⟨by (with_reducible repeat (first | apply Kd.R_alloc | apply Kd.R_drewN | apply Kd.R_drew)); exact Kd.R_mono HO_591001.out (fun _ hk => ⟨hk.1, ⟨hk.2.1, ⟨hk.2.2.1, ⟨hk.2.2.2.1, ⟨hk.2.2.2.2.1, hk.2.2.2.2.2.1⟩⟩⟩⟩⟩)⟩, ⟨by (with_reducible repeat (first | apply Kd.R_alloc | apply Kd.R_drewN | apply Kd.R_drew)); exact Kd.R_mono HO_591002.out (fun _ hk => ⟨hk.1, ⟨hk.2.1, ⟨hk.2.2.1, ⟨hk.2.2.2.1, ⟨hk.2.2.2.2.1, hk.2.2.2.2.2.1⟩⟩⟩⟩⟩)⟩, ⟨by (with_reducible repeat (first | apply Kd.R_alloc | apply Kd.R_drewN | apply Kd.R_drew)); exact Kd.R_mono HO_604001.out (fun _ hk => ⟨hk.1, ⟨hk.2.1, ⟨hk.2.2.1, ⟨hk.2.2.2.1, ⟨hk.2.2.2.2.1, hk.2.2.2.2.2.1⟩⟩⟩⟩⟩)⟩, ⟨by (with_reducible repeat (first | apply Kd.R_alloc | apply Kd.R_drewN | apply Kd.R_drew)); exact Kd.R_mono HO_604002.out (fun _ hk => ⟨hk.1, ⟨hk.2.1, ⟨hk.2.2.1, ⟨hk.2.2.2.1, ⟨hk.2.2.2.2.1, hk.2.2.2.2.2.1⟩⟩⟩⟩⟩)⟩, ⟨by (with_reducible repeat (first | apply Kd.R_alloc | apply Kd.R_drewN | apply Kd.R_drew)); exact Kd.R_mono HO_609001.out (fun _ hk => ⟨hk.1, ⟨hk.2.1, ⟨hk.2.2.1, ⟨hk.2.2.2.1, ⟨hk.2.2.2.2.1, hk.2.2.2.2.2.1⟩⟩⟩⟩⟩)⟩, ⟨by (with_reducible repeat (first | apply Kd.R_alloc | apply Kd.R_drewN | apply Kd.R_drew)); exact Kd.R_mono HO_623001.out (fun _ hk => ⟨hk.1, ⟨hk.2.1, ⟨hk.2.2.1, ⟨hk.2.2.2.1, ⟨hk.2.2.2.2.1, hk.2.2.2.2.2.1⟩⟩⟩⟩⟩)⟩, ⟨by (with_reducible repeat (first | apply Kd.R_alloc | apply Kd.R_drewN | apply Kd.R_drew)); exact Kd.R_mono HO_623002.out (fun _ hk => ⟨hk.1, ⟨hk.2.1, ⟨hk.2.2.1, ⟨hk.2.2.2.1, ⟨hk.2.2.2.2.1, hk.2.2.2.2.2.1⟩⟩⟩⟩⟩)⟩, ⟨bk BK557⟩, ⟨bk BK558⟩, ⟨bk BK590⟩, ⟨bk BK603⟩, ⟨bk BK608⟩, ⟨bk BK622⟩, ⟨bw⟩⟩
        case rest => as_aux_lemma =>
         clear HC121
         try clear c10
         try clear c110
         try clear c118
         (try clear z127_0 z127_1 z127_2 z127_3 z127_4 z127_5 z127_6 z127_7)
         (try clear z133_0 z133_1)
         (try clear f127_0 f127_1 f127_2 f127_3 f127_4 f127_5 f127_6 f127_7)
         (try clear f133_0 f133_1)
         obtain ⟨kq, x82_120, rfl, HA, HJ120, HO_591001, HO_591002, HO_604001, HO_604002, HO_609001, HO_623001, HO_623002, BK557, BK558, BK590, BK603, BK608, BK622, HB⟩ := hcut
         have hl604001_120 := (Kd.R_reads' HO_604001.out).1
         rw [hl604001_120] at HO_604001
         (try simp only [hl604001_120])
         (try simp only [hl604001_120] at BK557)
         (try simp only [hl604001_120] at BK558)
         (try simp only [hl604001_120] at BK590)
         (try simp only [hl604001_120] at BK603)
         (try simp only [hl604001_120] at BK608)
         (try simp only [hl604001_120] at BK622)
         (try simp only [hl604001_120] at HO_591001)
         (try simp only [hl604001_120] at HO_591002)
         (try simp only [hl604001_120] at HO_604002)
         (try simp only [hl604001_120] at HO_609001)
         (try simp only [hl604001_120] at HO_623001)
         (try simp only [hl604001_120] at HO_623002)
         have hl604002_120 := (Kd.R_reads' HO_604002.out).1
         rw [hl604002_120] at HO_604002
         (try simp only [hl604002_120])
         (try simp only [hl604002_120] at BK557)
         (try simp only [hl604002_120] at BK558)
         (try simp only [hl604002_120] at BK590)
         (try simp only [hl604002_120] at BK603)
         (try simp only [hl604002_120] at BK608)
         (try simp only [hl604002_120] at BK622)
         (try simp only [hl604002_120] at HO_591001)
         (try simp only [hl604002_120] at HO_591002)
         (try simp only [hl604002_120] at HO_604001)
         (try simp only [hl604002_120] at HO_609001)
         (try simp only [hl604002_120] at HO_623001)
         (try simp only [hl604002_120] at HO_623002)
         have hl609001_120 := (Kd.R_reads' HO_609001.out).1
         rw [hl609001_120] at HO_609001
         (try simp only [hl609001_120])
         (try simp only [hl609001_120] at BK557)
         (try simp only [hl609001_120] at BK558)
         (try simp only [hl609001_120] at BK590)
         (try simp only [hl609001_120] at BK603)
         (try simp only [hl609001_120] at BK608)
         (try simp only [hl609001_120] at BK622)
         (try simp only [hl609001_120] at HO_591001)
         (try simp only [hl609001_120] at HO_591002)
         (try simp only [hl609001_120] at HO_604001)
         (try simp only [hl609001_120] at HO_604002)
         (try simp only [hl609001_120] at HO_623001)
         (try simp only [hl609001_120] at HO_623002)
         cases kq with
         | zero => exact absurd HA.out (by simp [laws_FnExactWarpSubmit.j1])
         | succ kj120 =>
          have H := HA.out
          clear HA
          simp only [laws_FnExactWarpSubmit.j1] at H
          replace H := ib H
          rcases H with ⟨rfl, H⟩ | ⟨rfl, H⟩
          ·obtain rfl := Option.some.inj H
           go_wp2
           go_ret
           exact ⟨rt, bw⟩
          ·replace H := bn H
           obtain ⟨⟨t648, t649, t650⟩, A163, H⟩ := H
           try dsimp only at H
           replace H := bn H
           obtain ⟨t651, A164, H⟩ := H
           try dsimp only at H
           have HU165 := Aside0.mk H
           clear H
           have hnb166 := NB622_557.out
           have hnc166 := NB557_622.out
           have hnb167 := NB622_558.out
           have hnc167 := NB558_622.out
           have hnb168 := NB622_590.out
           have hnc168 := NB590_622.out
           have hnb170 := NB622_608.out
           have hnc170 := NB608_622.out
           obtain ⟨z171_0, z171_1, z171_2, z171_3, z171_4, z171_5, z171_6, z171_7⟩ := ca8 BK622
           go_upto_if 90 with (first | ((with_reducible refine gf 20 ?_); refine gl 20 Tryd.func20 (some 85) #[.agg #[.int .i64 t609, .slice Ao73 t610.length co73, .slice Ao74 t613.length co74, .int .u32 t616, .int .i64 t617, .int .i64 t618, .int .i64 t619, .int .u32 t620], .int .i64 1] ?_; (with_reducible refine (laws_markWarp.calls _ _ (fun k_ => some k_ = (.slice Ao73 t610.length co73 : Value).ownBlock) _ _ (fun k_ => some k_ = (.slice Ao74 t613.length co74 : Value).ownBlock) _ _ _ _ _ _ _ _ _ _ _ w _ ?side1 ?side2 ?side3 ?side4 ?side5 A163.out).mono ?_); (case side1 => repeat (first | (with_reducible first | exact HB.out | apply below_alloc | apply pw_below_drewN | apply below_drew1 | refine below_set ?_ GE557.out | refine below_set ?_ GE558.out | refine below_set ?_ GE590.out | refine below_set ?_ GE603.out | refine below_set ?_ GE608.out | refine below_set ?_ GE622.out) | exact HB.out)); (case side2 => exact Kd.R_tight rfl HO_623001.out); (case side3 => exact fun k_ e_ => (HO_623001.out.1 k_ e_.symm).2.2.2.2.2); (case side4 => exact Kd.R_tight rfl HO_623002.out); (case side5 => exact fun k_ e_ => (HO_623002.out.1 k_ e_.symm).2.2.2.2.2); rintro e w172 ⟨rfl, hy0, hy1, hb, hkp⟩; refine ⟨_, rfl, ?_⟩; replace HO_591001 := Aside0.mk (Kd.R_mono (ok' := fun k_ => some k_ ≠ (.slice Ao36 t581.length co36 : Value).ownBlock ∧ some k_ ≠ (.slice Ao52 t643.length co52 : Value).ownBlock ∧ some k_ ≠ (.slice Ao53 t644.length co53 : Value).ownBlock ∧ some k_ ≠ (.slice Ao63 t646.length co63 : Value).ownBlock ∧ some k_ ≠ (.slice Ao73 t610.length co73 : Value).ownBlock ∧ some k_ ≠ (.slice Ao74 t613.length co74 : Value).ownBlock) (Kd.R_keptB (HO_591001.out) hkp (fun k_ hk_ hs_ => Or.elim hs_ (fun e_ => (hk_.2.2.2.2.1) e_) (fun e_ => (hk_.2.2.2.2.2) e_))) (fun k_ hk_ => ⟨hk_.1.1, hk_.1.2.1, hk_.1.2.2.1, hk_.1.2.2.2.1, hk_.1.2.2.2.2.1, hk_.1.2.2.2.2.2⟩)); replace HO_591002 := Aside0.mk (Kd.R_mono (ok' := fun k_ => some k_ ≠ (.slice Ao34 t578.length co34 : Value).ownBlock ∧ some k_ ≠ (.slice Ao52 t643.length co52 : Value).ownBlock ∧ some k_ ≠ (.slice Ao53 t644.length co53 : Value).ownBlock ∧ some k_ ≠ (.slice Ao63 t646.length co63 : Value).ownBlock ∧ some k_ ≠ (.slice Ao73 t610.length co73 : Value).ownBlock ∧ some k_ ≠ (.slice Ao74 t613.length co74 : Value).ownBlock) (Kd.R_keptB (HO_591002.out) hkp (fun k_ hk_ hs_ => Or.elim hs_ (fun e_ => (hk_.2.2.2.2.1) e_) (fun e_ => (hk_.2.2.2.2.2) e_))) (fun k_ hk_ => ⟨hk_.1.1, hk_.1.2.1, hk_.1.2.2.1, hk_.1.2.2.2.1, hk_.1.2.2.2.2.1, hk_.1.2.2.2.2.2⟩)); replace HO_604001 := Aside0.mk (Kd.R_mono (ok' := fun k_ => some k_ ≠ (.slice Ao34 t578.length co34 : Value).ownBlock ∧ some k_ ≠ (.slice Ao36 t581.length co36 : Value).ownBlock ∧ some k_ ≠ (.slice Ao53 t644.length co53 : Value).ownBlock ∧ some k_ ≠ (.slice Ao63 t646.length co63 : Value).ownBlock ∧ some k_ ≠ (.slice Ao73 t610.length co73 : Value).ownBlock ∧ some k_ ≠ (.slice Ao74 t613.length co74 : Value).ownBlock) (Kd.R_keptB (HO_604001.out) hkp (fun k_ hk_ hs_ => Or.elim hs_ (fun e_ => (hk_.2.2.2.2.1) e_) (fun e_ => (hk_.2.2.2.2.2) e_))) (fun k_ hk_ => ⟨hk_.1.1, hk_.1.2.1, hk_.1.2.2.1, hk_.1.2.2.2.1, hk_.1.2.2.2.2.1, hk_.1.2.2.2.2.2⟩)); replace HO_604002 := Aside0.mk (Kd.R_mono (ok' := fun k_ => some k_ ≠ (.slice Ao34 t578.length co34 : Value).ownBlock ∧ some k_ ≠ (.slice Ao36 t581.length co36 : Value).ownBlock ∧ some k_ ≠ (.slice Ao52 t643.length co52 : Value).ownBlock ∧ some k_ ≠ (.slice Ao63 t646.length co63 : Value).ownBlock ∧ some k_ ≠ (.slice Ao73 t610.length co73 : Value).ownBlock ∧ some k_ ≠ (.slice Ao74 t613.length co74 : Value).ownBlock) (Kd.R_keptB (HO_604002.out) hkp (fun k_ hk_ hs_ => Or.elim hs_ (fun e_ => (hk_.2.2.2.2.1) e_) (fun e_ => (hk_.2.2.2.2.2) e_))) (fun k_ hk_ => ⟨hk_.1.1, hk_.1.2.1, hk_.1.2.2.1, hk_.1.2.2.2.1, hk_.1.2.2.2.2.1, hk_.1.2.2.2.2.2⟩)); replace HO_609001 := Aside0.mk (Kd.R_mono (ok' := fun k_ => some k_ ≠ (.slice Ao34 t578.length co34 : Value).ownBlock ∧ some k_ ≠ (.slice Ao36 t581.length co36 : Value).ownBlock ∧ some k_ ≠ (.slice Ao52 t643.length co52 : Value).ownBlock ∧ some k_ ≠ (.slice Ao53 t644.length co53 : Value).ownBlock ∧ some k_ ≠ (.slice Ao73 t610.length co73 : Value).ownBlock ∧ some k_ ≠ (.slice Ao74 t613.length co74 : Value).ownBlock) (Kd.R_keptB (HO_609001.out) hkp (fun k_ hk_ hs_ => Or.elim hs_ (fun e_ => (hk_.2.2.2.2.1) e_) (fun e_ => (hk_.2.2.2.2.2) e_))) (fun k_ hk_ => ⟨hk_.1.1, hk_.1.2.1, hk_.1.2.2.1, hk_.1.2.2.2.1, hk_.1.2.2.2.2.1, hk_.1.2.2.2.2.2⟩)); replace BK557 := Aside0.mk (blk_kept (bk BK557) hkp (fun hs_ => Or.elim hs_ (fun e_ => (fun e_ => (Kd.R_ne HO_623001.out BK557.out (by decide)) e_) e_) (fun e_ => (fun e_ => (Kd.R_ne HO_623002.out BK557.out (by decide)) e_) e_))); replace BK558 := Aside0.mk (blk_kept (bk BK558) hkp (fun hs_ => Or.elim hs_ (fun e_ => (fun e_ => (Kd.R_ne HO_623001.out BK558.out (by decide)) e_) e_) (fun e_ => (fun e_ => (Kd.R_ne HO_623002.out BK558.out (by decide)) e_) e_))); replace BK590 := Aside0.mk (blk_kept (bk BK590) hkp (fun hs_ => Or.elim hs_ (fun e_ => (fun e_ => (Kd.R_ne HO_623001.out BK590.out (by decide)) e_) e_) (fun e_ => (fun e_ => (Kd.R_ne HO_623002.out BK590.out (by decide)) e_) e_))); replace BK603 := Aside0.mk (blk_kept (bk BK603) hkp (fun hs_ => Or.elim hs_ (fun e_ => (fun e_ => (Kd.R_ne HO_623001.out BK603.out (by decide)) e_) e_) (fun e_ => (fun e_ => (Kd.R_ne HO_623002.out BK603.out (by decide)) e_) e_))); replace BK608 := Aside0.mk (blk_kept (bk BK608) hkp (fun hs_ => Or.elim hs_ (fun e_ => (fun e_ => (Kd.R_ne HO_623001.out BK608.out (by decide)) e_) e_) (fun e_ => (fun e_ => (Kd.R_ne HO_623002.out BK608.out (by decide)) e_) e_))); replace BK622 := Aside0.mk (blk_kept (bk BK622) hkp (fun hs_ => Or.elim hs_ (fun e_ => (fun e_ => (Kd.R_ne HO_623001.out BK622.out (by decide)) e_) e_) (fun e_ => (fun e_ => (Kd.R_ne HO_623002.out BK622.out (by decide)) e_) e_))); replace HO_623001 := Aside0.mk (Kd.R_reok rfl hy0 (fun k_ e_ => HO_623001.out.1 k_ e_)); replace HO_623002 := Aside0.mk (Kd.R_reok rfl hy1 (fun k_ e_ => HO_623002.out.1 k_ e_)); replace HB := Aside0.mk (hb); (try clear hb); (try clear hkp); (try clear hy0); (try clear hy1); obtain ⟨z173_0, z173_1, z173_2, z173_3, z173_4, z173_5, z173_6, z173_7⟩ := ca8 BK622; obtain ⟨f173_0, f173_1, f173_2, f173_3, f173_4, f173_5, f173_6, f173_7⟩ := fa8 BK622) | ((with_reducible refine gate_callee (f := 22) rfl ?_); refine goesL_ (some 88) rfl rfl Tryd.func22 kr rfl #[.agg #[.int .i64 t609, .slice Ao73 t649.length co73, .slice Ao74 t650.length co74, .int .u32 t616, .int .i64 t617, .int .i64 t618, .int .i64 t619, .int .u32 t620], .int .i64 1] rfl (by (try simp only [List.map_toArray, List.map_cons, List.map_nil]); first | done | (rw [show t649.length = t610.length from (Kd.R_reads' HO_623001.out).1.symm, show t650.length = t613.length from (Kd.R_reads' HO_623002.out).1.symm] <;> rfl) | rfl | (simp only [List.length_drop, List.length_take]; rfl)) ?_; (with_reducible refine (laws_heldWarp.calls _ _ _ _ _ _ _ _ _ _ _ _ _ _ _ _ ?side1 ?side2 ?side3 ?side4 A164.out).mono ?_); (case side1 => repeat (first | exact (Kd.R_reads' HO_623001.out).2.2 | (with_reducible refine Kd.C_alloc ?_ _) | (with_reducible refine Kd.C_drewN ?_ _) | (with_reducible refine Kd.C_drew ?_))); (case side2 => rw [show t649.length = t610.length from (Kd.R_reads' HO_623001.out).1.symm]; exact (Kd.R_reads' HO_623001.out).2.1); (case side3 => repeat (first | exact (Kd.R_reads' HO_623002.out).2.2 | (with_reducible refine Kd.C_alloc ?_ _) | (with_reducible refine Kd.C_drewN ?_ _) | (with_reducible refine Kd.C_drew ?_))); (case side4 => rw [show t650.length = t613.length from (Kd.R_reads' HO_623002.out).1.symm]; exact (Kd.R_reads' HO_623002.out).2.1); rintro e w174 ⟨rfl, hb⟩; refine ⟨_, rfl, ?_⟩; replace HO_591001 := Aside0.mk (Kd.R_below (ro HO_591001) hb); replace HO_591002 := Aside0.mk (Kd.R_below (ro HO_591002) hb); replace HO_604001 := Aside0.mk (Kd.R_below (ro HO_604001) hb); replace HO_604002 := Aside0.mk (Kd.R_below (ro HO_604002) hb); replace HO_609001 := Aside0.mk (Kd.R_below (ro HO_609001) hb); replace HO_623001 := Aside0.mk (Kd.R_below (ro HO_623001) hb); replace HO_623002 := Aside0.mk (Kd.R_below (ro HO_623002) hb); replace BK557 := b_ BK557 hb; replace BK558 := b_ BK558 hb; replace BK590 := b_ BK590 hb; replace BK603 := b_ BK603 hb; replace BK608 := b_ BK608 hb; replace BK622 := b_ BK622 hb; replace HB := hs hb; try clear hb))
           (try refine ap ?_)
           have H := HU165.out
           clear HU165
           replace H := ilt H
           rcases H with ⟨c175b0, H⟩ | ⟨c175b0, H⟩
           ·(first | rw [c175b0] | (simp only [i64_w, i32_w]; rw [c175b0]) | (simp only [c175b2, Bool.not_true, Bool.not_false]) | (simp only [c175b1, Bool.not_true, Bool.not_false]) | skip)
            obtain rfl := Option.some.inj H
            go_wp2
            go_ret
            exact ⟨rt, bw⟩
           ·(first | rw [c175b0] | (simp only [i64_w, i32_w]; rw [c175b0]) | (simp only [c175b2, Bool.not_true, Bool.not_false]) | (simp only [c175b1, Bool.not_true, Bool.not_false]) | skip)
            replace H := ieq H
            rcases H with ⟨c176b0, c176b1, H⟩ | ⟨c176, c176b0, c176b1, H⟩
            ·replace H := bn H
             obtain ⟨⟨t652, t653, t656, t659, t660, t661, t662, t663⟩, A177, H⟩ := H
             try dsimp only at H
             replace H := bn H
             obtain ⟨⟨t664, t665⟩, A178, H⟩ := H
             try dsimp only at H
             replace H := bn H
             obtain ⟨⟨t668, t669, t672, t675, t676, t677, t678, t679, t680⟩, A179, H⟩ := H
             try dsimp only at H
             have HC180 := Aside0.mk H
             clear H
             try go_wp2
             replace HO_591001 := Aside0.mk (Kd.R_drew HO_591001.out)
             replace HO_591002 := Aside0.mk (Kd.R_drew HO_591002.out)
             replace HO_604001 := Aside0.mk (Kd.R_drew HO_604001.out)
             replace HO_604002 := Aside0.mk (Kd.R_drew HO_604002.out)
             replace HO_609001 := Aside0.mk (Kd.R_drew HO_609001.out)
             replace HO_623001 := Aside0.mk (Kd.R_drew HO_623001.out)
             replace HO_623002 := Aside0.mk (Kd.R_drew HO_623002.out)
             replace BK557 := bd BK557
             replace BK558 := bd BK558
             replace BK590 := bd BK590
             replace BK603 := bd BK603
             replace BK608 := bd BK608
             replace BK622 := bd BK622
             replace HB := hd HB
             refine st 11 (fun w' => CA w' gb557 0 [.int .i64 a0_0, .slice A0_1 l0_1.length c0_1, .slice A0_2 l0_2.length c0_2, .int .u32 a0_3, .int .i64 a0_4, .int .i64 a0_5, .int .i64 a0_6, .int .u32 a0_7] ∧ CA w' gb558 0 [.int .i64 a1_0, .slice A1_1 l1_1.length c1_1]) [] ⟨cx BK557, cx BK558⟩ laws_FnExactWarpSubmit.tab31 laws_FnExactWarpSubmit.bits31 ?_; intro hHeld HT_ HW_
             generalize w174.drew = w181 at HO_591001 HO_591002 HO_604001 HO_604002 HO_609001 HO_623001 HO_623002 BK557 BK558 BK590 BK603 BK608 BK622 HB hHeld ⊢
             refine tk 0 95 (bl 11 1) ?_
             refine tk 2 97 (bl 11 5) ?_
             refine join_ (σ := Value × Value × Value × Value × Value × Nat) 2 (bl 11 511) (fun s_ => [(96, .agg #[.int .i64 t652, s_.1, s_.2.1, .int .u32 t659, .int .i64 t660, .int .i64 t661, .int .i64 t662, .int .u32 t663]), (98, .agg #[.int .i64 t664, s_.2.2.1]), (99, .tuple #[.agg #[.int .i64 t668, s_.2.2.2.1, s_.2.2.2.2.1, .int .u32 t675, .int .i64 t676, .int .i64 t677, .int .i64 t678, .int .u32 t679], .bool t680]), (15, .pointer (some ⟨s_.2.2.2.2.2, 0, none⟩)), (94, .tuple #[.agg #[.int .i64 t668, s_.2.2.2.1, s_.2.2.2.2.1, .int .u32 t675, .int .i64 t676, .int .i64 t677, .int .i64 t678, .int .u32 t679], .bool t680]), (100, .agg #[.int .i64 t668, s_.2.2.2.1, s_.2.2.2.2.1, .int .u32 t675, .int .i64 t676, .int .i64 t677, .int .i64 t678, .int .u32 t679]), (101, .bool t680)]) (fun s_ w' => (CA w' gb557 0 [.int .i64 a0_0, .slice A0_1 l0_1.length c0_1, .slice A0_2 l0_2.length c0_2, .int .u32 a0_3, .int .i64 a0_4, .int .i64 a0_5, .int .i64 a0_6, .int .u32 a0_7] ∧ CA w' gb558 0 [.int .i64 a1_0, .slice A1_1 l1_1.length c1_1]) ∧ (Kd.R (Kd.int .i64) 3 w' w.heap.size (fun k_ => some k_ ≠ (s_.2.1 : Value).ownBlock ∧ some k_ ≠ (s_.2.2.1 : Value).ownBlock ∧ some k_ ≠ (s_.2.2.2.1 : Value).ownBlock ∧ some k_ ≠ (s_.2.2.2.2.1 : Value).ownBlock ∧ some k_ ≠ (.slice Ao34 t578.length co34 : Value).ownBlock ∧ some k_ ≠ (.slice Ao36 t581.length co36 : Value).ownBlock ∧ some k_ ≠ (.slice Ao52 t643.length co52 : Value).ownBlock ∧ some k_ ≠ (.slice Ao53 t644.length co53 : Value).ownBlock ∧ some k_ ≠ (.slice Ao63 t646.length co63 : Value).ownBlock ∧ some k_ ≠ (.slice Ao73 t610.length co73 : Value).ownBlock ∧ some k_ ≠ (.slice Ao74 t613.length co74 : Value).ownBlock) s_.1 t653) ∧ (Kd.R (Kd.int .i64) 3 w' w.heap.size (fun k_ => some k_ ≠ (s_.1 : Value).ownBlock ∧ some k_ ≠ (s_.2.2.1 : Value).ownBlock ∧ some k_ ≠ (s_.2.2.2.1 : Value).ownBlock ∧ some k_ ≠ (s_.2.2.2.2.1 : Value).ownBlock ∧ some k_ ≠ (.slice Ao34 t578.length co34 : Value).ownBlock ∧ some k_ ≠ (.slice Ao36 t581.length co36 : Value).ownBlock ∧ some k_ ≠ (.slice Ao52 t643.length co52 : Value).ownBlock ∧ some k_ ≠ (.slice Ao53 t644.length co53 : Value).ownBlock ∧ some k_ ≠ (.slice Ao63 t646.length co63 : Value).ownBlock ∧ some k_ ≠ (.slice Ao73 t610.length co73 : Value).ownBlock ∧ some k_ ≠ (.slice Ao74 t613.length co74 : Value).ownBlock) s_.2.1 t656) ∧ (Kd.R (Kd.int .i64) 3 w' w.heap.size (fun k_ => some k_ ≠ (s_.1 : Value).ownBlock ∧ some k_ ≠ (s_.2.1 : Value).ownBlock ∧ some k_ ≠ (s_.2.2.2.1 : Value).ownBlock ∧ some k_ ≠ (s_.2.2.2.2.1 : Value).ownBlock ∧ some k_ ≠ (.slice Ao34 t578.length co34 : Value).ownBlock ∧ some k_ ≠ (.slice Ao36 t581.length co36 : Value).ownBlock ∧ some k_ ≠ (.slice Ao52 t643.length co52 : Value).ownBlock ∧ some k_ ≠ (.slice Ao53 t644.length co53 : Value).ownBlock ∧ some k_ ≠ (.slice Ao63 t646.length co63 : Value).ownBlock ∧ some k_ ≠ (.slice Ao73 t610.length co73 : Value).ownBlock ∧ some k_ ≠ (.slice Ao74 t613.length co74 : Value).ownBlock) s_.2.2.1 t665) ∧ (Kd.R (Kd.int .i64) 3 w' w.heap.size (fun k_ => some k_ ≠ (s_.1 : Value).ownBlock ∧ some k_ ≠ (s_.2.1 : Value).ownBlock ∧ some k_ ≠ (s_.2.2.1 : Value).ownBlock ∧ some k_ ≠ (s_.2.2.2.2.1 : Value).ownBlock ∧ some k_ ≠ (.slice Ao34 t578.length co34 : Value).ownBlock ∧ some k_ ≠ (.slice Ao36 t581.length co36 : Value).ownBlock ∧ some k_ ≠ (.slice Ao52 t643.length co52 : Value).ownBlock ∧ some k_ ≠ (.slice Ao53 t644.length co53 : Value).ownBlock ∧ some k_ ≠ (.slice Ao63 t646.length co63 : Value).ownBlock ∧ some k_ ≠ (.slice Ao73 t610.length co73 : Value).ownBlock ∧ some k_ ≠ (.slice Ao74 t613.length co74 : Value).ownBlock) s_.2.2.2.1 t669) ∧ (Kd.R (Kd.int .i64) 3 w' w.heap.size (fun k_ => some k_ ≠ (s_.1 : Value).ownBlock ∧ some k_ ≠ (s_.2.1 : Value).ownBlock ∧ some k_ ≠ (s_.2.2.1 : Value).ownBlock ∧ some k_ ≠ (s_.2.2.2.1 : Value).ownBlock ∧ some k_ ≠ (.slice Ao34 t578.length co34 : Value).ownBlock ∧ some k_ ≠ (.slice Ao36 t581.length co36 : Value).ownBlock ∧ some k_ ≠ (.slice Ao52 t643.length co52 : Value).ownBlock ∧ some k_ ≠ (.slice Ao53 t644.length co53 : Value).ownBlock ∧ some k_ ≠ (.slice Ao63 t646.length co63 : Value).ownBlock ∧ some k_ ≠ (.slice Ao73 t610.length co73 : Value).ownBlock ∧ some k_ ≠ (.slice Ao74 t613.length co74 : Value).ownBlock) s_.2.2.2.2.1 t672) ∧ (Kd.R (Kd.int .i64) 3 w' w.heap.size (fun k_ => some k_ ≠ (s_.1 : Value).ownBlock ∧ some k_ ≠ (s_.2.1 : Value).ownBlock ∧ some k_ ≠ (s_.2.2.1 : Value).ownBlock ∧ some k_ ≠ (s_.2.2.2.1 : Value).ownBlock ∧ some k_ ≠ (s_.2.2.2.2.1 : Value).ownBlock ∧ some k_ ≠ (.slice Ao36 t581.length co36 : Value).ownBlock ∧ some k_ ≠ (.slice Ao52 t643.length co52 : Value).ownBlock ∧ some k_ ≠ (.slice Ao53 t644.length co53 : Value).ownBlock ∧ some k_ ≠ (.slice Ao63 t646.length co63 : Value).ownBlock ∧ some k_ ≠ (.slice Ao73 t610.length co73 : Value).ownBlock ∧ some k_ ≠ (.slice Ao74 t613.length co74 : Value).ownBlock) (.slice Ao34 t578.length co34) t578) ∧ (Kd.R (Kd.int .i64) 3 w' w.heap.size (fun k_ => some k_ ≠ (s_.1 : Value).ownBlock ∧ some k_ ≠ (s_.2.1 : Value).ownBlock ∧ some k_ ≠ (s_.2.2.1 : Value).ownBlock ∧ some k_ ≠ (s_.2.2.2.1 : Value).ownBlock ∧ some k_ ≠ (s_.2.2.2.2.1 : Value).ownBlock ∧ some k_ ≠ (.slice Ao34 t578.length co34 : Value).ownBlock ∧ some k_ ≠ (.slice Ao52 t643.length co52 : Value).ownBlock ∧ some k_ ≠ (.slice Ao53 t644.length co53 : Value).ownBlock ∧ some k_ ≠ (.slice Ao63 t646.length co63 : Value).ownBlock ∧ some k_ ≠ (.slice Ao73 t610.length co73 : Value).ownBlock ∧ some k_ ≠ (.slice Ao74 t613.length co74 : Value).ownBlock) (.slice Ao36 t581.length co36) t581) ∧ (Kd.R (Kd.int .i64) 3 w' w.heap.size (fun k_ => some k_ ≠ (s_.1 : Value).ownBlock ∧ some k_ ≠ (s_.2.1 : Value).ownBlock ∧ some k_ ≠ (s_.2.2.1 : Value).ownBlock ∧ some k_ ≠ (s_.2.2.2.1 : Value).ownBlock ∧ some k_ ≠ (s_.2.2.2.2.1 : Value).ownBlock ∧ some k_ ≠ (.slice Ao34 t578.length co34 : Value).ownBlock ∧ some k_ ≠ (.slice Ao36 t581.length co36 : Value).ownBlock ∧ some k_ ≠ (.slice Ao53 t644.length co53 : Value).ownBlock ∧ some k_ ≠ (.slice Ao63 t646.length co63 : Value).ownBlock ∧ some k_ ≠ (.slice Ao73 t610.length co73 : Value).ownBlock ∧ some k_ ≠ (.slice Ao74 t613.length co74 : Value).ownBlock) (.slice Ao52 t643.length co52) t643) ∧ (Kd.R (Kd.int .i64) 3 w' w.heap.size (fun k_ => some k_ ≠ (s_.1 : Value).ownBlock ∧ some k_ ≠ (s_.2.1 : Value).ownBlock ∧ some k_ ≠ (s_.2.2.1 : Value).ownBlock ∧ some k_ ≠ (s_.2.2.2.1 : Value).ownBlock ∧ some k_ ≠ (s_.2.2.2.2.1 : Value).ownBlock ∧ some k_ ≠ (.slice Ao34 t578.length co34 : Value).ownBlock ∧ some k_ ≠ (.slice Ao36 t581.length co36 : Value).ownBlock ∧ some k_ ≠ (.slice Ao52 t643.length co52 : Value).ownBlock ∧ some k_ ≠ (.slice Ao63 t646.length co63 : Value).ownBlock ∧ some k_ ≠ (.slice Ao73 t610.length co73 : Value).ownBlock ∧ some k_ ≠ (.slice Ao74 t613.length co74 : Value).ownBlock) (.slice Ao53 t644.length co53) t644) ∧ (Kd.R (Kd.int .i64) 3 w' w.heap.size (fun k_ => some k_ ≠ (s_.1 : Value).ownBlock ∧ some k_ ≠ (s_.2.1 : Value).ownBlock ∧ some k_ ≠ (s_.2.2.1 : Value).ownBlock ∧ some k_ ≠ (s_.2.2.2.1 : Value).ownBlock ∧ some k_ ≠ (s_.2.2.2.2.1 : Value).ownBlock ∧ some k_ ≠ (.slice Ao34 t578.length co34 : Value).ownBlock ∧ some k_ ≠ (.slice Ao36 t581.length co36 : Value).ownBlock ∧ some k_ ≠ (.slice Ao52 t643.length co52 : Value).ownBlock ∧ some k_ ≠ (.slice Ao53 t644.length co53 : Value).ownBlock ∧ some k_ ≠ (.slice Ao73 t610.length co73 : Value).ownBlock ∧ some k_ ≠ (.slice Ao74 t613.length co74 : Value).ownBlock) (.slice Ao63 t646.length co63) t646) ∧ (Kd.R (Kd.int .i64) 3 w' w.heap.size (fun k_ => some k_ ≠ (s_.1 : Value).ownBlock ∧ some k_ ≠ (s_.2.1 : Value).ownBlock ∧ some k_ ≠ (s_.2.2.1 : Value).ownBlock ∧ some k_ ≠ (s_.2.2.2.1 : Value).ownBlock ∧ some k_ ≠ (s_.2.2.2.2.1 : Value).ownBlock ∧ some k_ ≠ (.slice Ao34 t578.length co34 : Value).ownBlock ∧ some k_ ≠ (.slice Ao36 t581.length co36 : Value).ownBlock ∧ some k_ ≠ (.slice Ao52 t643.length co52 : Value).ownBlock ∧ some k_ ≠ (.slice Ao53 t644.length co53 : Value).ownBlock ∧ some k_ ≠ (.slice Ao63 t646.length co63 : Value).ownBlock ∧ some k_ ≠ (.slice Ao74 t613.length co74 : Value).ownBlock) (.slice Ao73 t610.length co73) t649) ∧ (Kd.R (Kd.int .i64) 3 w' w.heap.size (fun k_ => some k_ ≠ (s_.1 : Value).ownBlock ∧ some k_ ≠ (s_.2.1 : Value).ownBlock ∧ some k_ ≠ (s_.2.2.1 : Value).ownBlock ∧ some k_ ≠ (s_.2.2.2.1 : Value).ownBlock ∧ some k_ ≠ (s_.2.2.2.2.1 : Value).ownBlock ∧ some k_ ≠ (.slice Ao34 t578.length co34 : Value).ownBlock ∧ some k_ ≠ (.slice Ao36 t581.length co36 : Value).ownBlock ∧ some k_ ≠ (.slice Ao52 t643.length co52 : Value).ownBlock ∧ some k_ ≠ (.slice Ao53 t644.length co53 : Value).ownBlock ∧ some k_ ≠ (.slice Ao63 t646.length co63 : Value).ownBlock ∧ some k_ ≠ (.slice Ao73 t610.length co73 : Value).ownBlock) (.slice Ao74 t613.length co74) t650) ∧ (w'.heap[gb557]? = some (.cells #[.int .i64 a0_0, .slice A0_1 l0_1.length c0_1, .slice A0_2 l0_2.length c0_2, .int .u32 a0_3, .int .i64 a0_4, .int .i64 a0_5, .int .i64 a0_6, .int .u32 a0_7] 25 (0, 0))) ∧ (w'.heap[gb558]? = some (.cells #[.int .i64 a1_0, .slice A1_1 l1_1.length c1_1] 35 (0, 0))) ∧ (w'.heap[gb590]? = some (.cells #[.int .i64 t577, .slice Ao34 t578.length co34, .slice Ao36 t581.length co36, .int .u32 t584, .int .i64 t585, .int .i64 t586, .int .i64 t587, .int .u32 t588] 28 (0, 0))) ∧ (w'.heap[gb603]? = some (.cells #[.int .i64 t591, .slice Ao52 t643.length co52, .slice Ao53 t644.length co53, .int .u32 t598, .int .i64 t599, .int .i64 t600, .int .i64 t601, .int .u32 t602] 28 (0, 0))) ∧ (w'.heap[gb608]? = some (.cells #[.int .i64 t604, .slice Ao63 t646.length co63] 39 (0, 0))) ∧ (w'.heap[gb622]? = some (.cells #[.int .i64 t609, .slice Ao73 t610.length co73, .slice Ao74 t613.length co74, .int .u32 t616, .int .i64 t617, .int .i64 t618, .int .i64 t619, .int .u32 t620] 28 (0, 0))) ∧ (w'.heap[s_.2.2.2.2.2]? = some (.cells #[.int .i64 0, .slice none 0 0, .slice none 0 0, .int .u32 0, .int .i64 0, .int .i64 0, .int .i64 0, .int .u32 0] 28 (0, 0))) ∧ (w.heap.size ≤ s_.2.2.2.2.2) ∧ (w.heap.size ≤ s_.2.2.2.2.2) ∧ (gb557 ≠ s_.2.2.2.2.2) ∧ (s_.2.2.2.2.2 ≠ gb557) ∧ (gb558 ≠ s_.2.2.2.2.2) ∧ (s_.2.2.2.2.2 ≠ gb558) ∧ (gb590 ≠ s_.2.2.2.2.2) ∧ (s_.2.2.2.2.2 ≠ gb590) ∧ (gb603 ≠ s_.2.2.2.2.2) ∧ (s_.2.2.2.2.2 ≠ gb603) ∧ (gb608 ≠ s_.2.2.2.2.2) ∧ (s_.2.2.2.2.2 ≠ gb608) ∧ (gb622 ≠ s_.2.2.2.2.2) ∧ (s_.2.2.2.2.2 ≠ gb622) ∧ (Below w.heap.size w w')) ?_ ?_
             rotate_left
             ·intro hCont
              refine two_ (i := 1) (j := 8) (Ni := some 96) (Nj := some 15) (bl 11 7) (bl 11 261) rfl rfl rfl rfl (two_of HT_.out kr) (by decide) (by decide) (fun K hK => ?_) (fun K hK => ?_)
              ·skip
               refine gq Tryd.func10 (laws_toWarp.calls _ _ A0_1 c0_1 _ A0_2 c0_2 _ _ _ _ _ _ _ _ _ _ _ _ _ _ _ (cb HR0_1) HC0_1.out (cb HR0_2) HC0_2.out A177.out) ?_
               rintro e w182 ⟨v654, v657, rfl, ho0, ho1, hb⟩
               refine ⟨_, rfl, ?_⟩
               have HO655 := Aside0.mk (Kd.R_lower (Kd.R_new' (Kd.R_new' (Kd.R_new' (Kd.R_new' (Kd.R_new' (Kd.R_new' (Kd.R_new' ho0 (Kd.R_lt (ro HO_591001))) (Kd.R_lt (ro HO_591002))) (Kd.R_lt (ro HO_604001))) (Kd.R_lt (ro HO_604002))) (Kd.R_lt (ro HO_609001))) (Kd.R_lt (ro HO_623001))) (Kd.R_lt (ro HO_623002))) (below_size bw))
               have HO658 := Aside0.mk (Kd.R_lower (Kd.R_new' (Kd.R_new' (Kd.R_new' (Kd.R_new' (Kd.R_new' (Kd.R_new' (Kd.R_new' ho1 (Kd.R_lt (ro HO_591001))) (Kd.R_lt (ro HO_591002))) (Kd.R_lt (ro HO_604001))) (Kd.R_lt (ro HO_604002))) (Kd.R_lt (ro HO_609001))) (Kd.R_lt (ro HO_623001))) (Kd.R_lt (ro HO_623002))) (below_size bw))
               replace HO_591001 := Aside0.mk (Kd.R_mono (Kd.R_told (Kd.R_told (Kd.R_old (ro HO_591001) hb) (Kd.R_base ho0)) (Kd.R_base ho1)) (fun _ h_ => h_.1))
               replace HO_591002 := Aside0.mk (Kd.R_mono (Kd.R_told (Kd.R_told (Kd.R_old (ro HO_591002) hb) (Kd.R_base ho0)) (Kd.R_base ho1)) (fun _ h_ => h_.1))
               replace HO_604001 := Aside0.mk (Kd.R_mono (Kd.R_told (Kd.R_told (Kd.R_old (ro HO_604001) hb) (Kd.R_base ho0)) (Kd.R_base ho1)) (fun _ h_ => h_.1))
               replace HO_604002 := Aside0.mk (Kd.R_mono (Kd.R_told (Kd.R_told (Kd.R_old (ro HO_604002) hb) (Kd.R_base ho0)) (Kd.R_base ho1)) (fun _ h_ => h_.1))
               replace HO_609001 := Aside0.mk (Kd.R_mono (Kd.R_told (Kd.R_told (Kd.R_old (ro HO_609001) hb) (Kd.R_base ho0)) (Kd.R_base ho1)) (fun _ h_ => h_.1))
               replace HO_623001 := Aside0.mk (Kd.R_mono (Kd.R_told (Kd.R_told (Kd.R_old (ro HO_623001) hb) (Kd.R_base ho0)) (Kd.R_base ho1)) (fun _ h_ => h_.1))
               replace HO_623002 := Aside0.mk (Kd.R_mono (Kd.R_told (Kd.R_told (Kd.R_old (ro HO_623002) hb) (Kd.R_base ho0)) (Kd.R_base ho1)) (fun _ h_ => h_.1))
               replace BK557 := b_ BK557 hb
               replace BK558 := b_ BK558 hb
               replace BK590 := b_ BK590 hb
               replace BK603 := b_ BK603 hb
               replace BK608 := b_ BK608 hb
               replace BK622 := b_ BK622 hb
               replace HB := hs hb
               (try clear hb)
               (try clear hb2)
               (try clear hk)
               (try clear hi)
               (try clear ho0)
               (try clear ho1)
               refine hK.out _ _ ⟨cx BK557, cx BK558⟩ (fun hHeld => ?_)
               clear hK K
               refine nm ?_
               refine two_ (i := 3) (j := 8) (Ni := some 98) (Nj := some 15) (bl 11 15) (bl 11 263) rfl rfl rfl rfl (two_of HT_.out kr) (by decide) (by decide) (fun K hK => ?_) (fun K hK => ?_)
               ·skip
                refine gq Tryd.func17 (laws_toReq.calls _ _ A1_1 c1_1 _ _ _ _ (cb HR1_1) HC1_1.out A178.out) ?_
                rintro e w183 ⟨v666, rfl, ho0, hb⟩
                refine ⟨_, rfl, ?_⟩
                have HO667 := Aside0.mk (Kd.R_lower (Kd.R_new' (Kd.R_new' (Kd.R_new' (Kd.R_new' (Kd.R_new' (Kd.R_new' (Kd.R_new' (Kd.R_new' (Kd.R_new' ho0 (Kd.R_lt (ro HO_591001))) (Kd.R_lt (ro HO_591002))) (Kd.R_lt (ro HO_604001))) (Kd.R_lt (ro HO_604002))) (Kd.R_lt (ro HO_609001))) (Kd.R_lt (ro HO_623001))) (Kd.R_lt (ro HO_623002))) (Kd.R_lt (ro HO655))) (Kd.R_lt (ro HO658))) (below_size bw))
                replace HO_591001 := Aside0.mk (Kd.R_elder' (ro HO_591001) (Kd.R_base ho0) hb)
                replace HO_591002 := Aside0.mk (Kd.R_elder' (ro HO_591002) (Kd.R_base ho0) hb)
                replace HO_604001 := Aside0.mk (Kd.R_elder' (ro HO_604001) (Kd.R_base ho0) hb)
                replace HO_604002 := Aside0.mk (Kd.R_elder' (ro HO_604002) (Kd.R_base ho0) hb)
                replace HO_609001 := Aside0.mk (Kd.R_elder' (ro HO_609001) (Kd.R_base ho0) hb)
                replace HO_623001 := Aside0.mk (Kd.R_elder' (ro HO_623001) (Kd.R_base ho0) hb)
                replace HO_623002 := Aside0.mk (Kd.R_elder' (ro HO_623002) (Kd.R_base ho0) hb)
                replace HO655 := Aside0.mk (Kd.R_elder' (ro HO655) (Kd.R_base ho0) hb)
                replace HO658 := Aside0.mk (Kd.R_elder' (ro HO658) (Kd.R_base ho0) hb)
                replace BK557 := b_ BK557 hb
                replace BK558 := b_ BK558 hb
                replace BK590 := b_ BK590 hb
                replace BK603 := b_ BK603 hb
                replace BK608 := b_ BK608 hb
                replace BK622 := b_ BK622 hb
                replace HB := hs hb
                (try clear hb)
                (try clear hb2)
                (try clear hk)
                (try clear hi)
                (try clear ho0)
                obtain ⟨Ao184, co184, eo184⟩ := Kd.R_slice HO655.out
                (first | subst eo184 | (injection eo184 with f1_ f2_ f3_; have f4_ := f1_.symm; have f5_ := f3_.symm; clear f1_ f2_ f3_; subst f4_; subst f5_))
                obtain ⟨Ao185, co185, eo185⟩ := Kd.R_slice HO658.out
                (first | subst eo185 | (injection eo185 with f1_ f2_ f3_; have f4_ := f1_.symm; have f5_ := f3_.symm; clear f1_ f2_ f3_; subst f4_; subst f5_))
                obtain ⟨Ao186, co186, eo186⟩ := Kd.R_slice HO667.out
                (first | subst eo186 | (injection eo186 with f1_ f2_ f3_; have f4_ := f1_.symm; have f5_ := f3_.symm; clear f1_ f2_ f3_; subst f4_; subst f5_))
                refine hK.out _ _ ⟨cx BK557, cx BK558⟩ (fun hHeld => ?_)
                clear hK K
                refine nm ?_
                refine two_ (i := 4) (j := 8) (Ni := some 99) (Nj := some 15) (bl 11 31) (bl 11 271) rfl rfl rfl rfl (two_of HT_.out kr) (by decide) (by decide) (fun K hK => ?_) (fun K hK => ?_)
                ·skip
                 refine gq Tryd.func18 (impl_WarpSubmit.calls _ _ Ao184 co184 _ Ao185 co185 _ _ _ _ _ _ _ Ao186 co186 _ _ _ _ _ _ _ _ _ _ _ (cr HO655) ((Kd.R_reads' HO655.out).2.1) (cr HO658) ((Kd.R_reads' HO658.out).2.1) (cr HO667) ((Kd.R_reads' HO667.out).2.1) A179.out (hT.below bw)) ?_
                 rintro e w187 ⟨v670, v673, rfl, ho0, ho1, hb⟩
                 refine ⟨_, rfl, ?_⟩
                 have HO671 := Aside0.mk (Kd.R_lower (Kd.R_new' (Kd.R_new' (Kd.R_new' (Kd.R_new' (Kd.R_new' (Kd.R_new' (Kd.R_new' (Kd.R_new' (Kd.R_new' (Kd.R_new' ho0 (Kd.R_lt (ro HO_591001))) (Kd.R_lt (ro HO_591002))) (Kd.R_lt (ro HO_604001))) (Kd.R_lt (ro HO_604002))) (Kd.R_lt (ro HO_609001))) (Kd.R_lt (ro HO_623001))) (Kd.R_lt (ro HO_623002))) (Kd.R_lt (ro HO655))) (Kd.R_lt (ro HO658))) (Kd.R_lt (ro HO667))) (below_size bw))
                 have HO674 := Aside0.mk (Kd.R_lower (Kd.R_new' (Kd.R_new' (Kd.R_new' (Kd.R_new' (Kd.R_new' (Kd.R_new' (Kd.R_new' (Kd.R_new' (Kd.R_new' (Kd.R_new' ho1 (Kd.R_lt (ro HO_591001))) (Kd.R_lt (ro HO_591002))) (Kd.R_lt (ro HO_604001))) (Kd.R_lt (ro HO_604002))) (Kd.R_lt (ro HO_609001))) (Kd.R_lt (ro HO_623001))) (Kd.R_lt (ro HO_623002))) (Kd.R_lt (ro HO655))) (Kd.R_lt (ro HO658))) (Kd.R_lt (ro HO667))) (below_size bw))
                 replace HO_591001 := Aside0.mk (Kd.R_mono (Kd.R_told (Kd.R_told (Kd.R_old (ro HO_591001) hb) (Kd.R_base ho0)) (Kd.R_base ho1)) (fun _ h_ => h_.1))
                 replace HO_591002 := Aside0.mk (Kd.R_mono (Kd.R_told (Kd.R_told (Kd.R_old (ro HO_591002) hb) (Kd.R_base ho0)) (Kd.R_base ho1)) (fun _ h_ => h_.1))
                 replace HO_604001 := Aside0.mk (Kd.R_mono (Kd.R_told (Kd.R_told (Kd.R_old (ro HO_604001) hb) (Kd.R_base ho0)) (Kd.R_base ho1)) (fun _ h_ => h_.1))
                 replace HO_604002 := Aside0.mk (Kd.R_mono (Kd.R_told (Kd.R_told (Kd.R_old (ro HO_604002) hb) (Kd.R_base ho0)) (Kd.R_base ho1)) (fun _ h_ => h_.1))
                 replace HO_609001 := Aside0.mk (Kd.R_mono (Kd.R_told (Kd.R_told (Kd.R_old (ro HO_609001) hb) (Kd.R_base ho0)) (Kd.R_base ho1)) (fun _ h_ => h_.1))
                 replace HO_623001 := Aside0.mk (Kd.R_mono (Kd.R_told (Kd.R_told (Kd.R_old (ro HO_623001) hb) (Kd.R_base ho0)) (Kd.R_base ho1)) (fun _ h_ => h_.1))
                 replace HO_623002 := Aside0.mk (Kd.R_mono (Kd.R_told (Kd.R_told (Kd.R_old (ro HO_623002) hb) (Kd.R_base ho0)) (Kd.R_base ho1)) (fun _ h_ => h_.1))
                 replace HO655 := Aside0.mk (Kd.R_mono (Kd.R_told (Kd.R_told (Kd.R_old (ro HO655) hb) (Kd.R_base ho0)) (Kd.R_base ho1)) (fun _ h_ => h_.1))
                 replace HO658 := Aside0.mk (Kd.R_mono (Kd.R_told (Kd.R_told (Kd.R_old (ro HO658) hb) (Kd.R_base ho0)) (Kd.R_base ho1)) (fun _ h_ => h_.1))
                 replace HO667 := Aside0.mk (Kd.R_mono (Kd.R_told (Kd.R_told (Kd.R_old (ro HO667) hb) (Kd.R_base ho0)) (Kd.R_base ho1)) (fun _ h_ => h_.1))
                 replace BK557 := b_ BK557 hb
                 replace BK558 := b_ BK558 hb
                 replace BK590 := b_ BK590 hb
                 replace BK603 := b_ BK603 hb
                 replace BK608 := b_ BK608 hb
                 replace BK622 := b_ BK622 hb
                 replace HB := hs hb
                 (try clear hb)
                 (try clear hb2)
                 (try clear hk)
                 (try clear hi)
                 (try clear ho0)
                 (try clear ho1)
                 refine hK.out _ _ ⟨cx BK557, cx BK558⟩ (fun hHeld => ?_)
                 clear hK K
                 refine nm ?_
                 refine pu 5 94 (bl 11 63) ?_
                 refine pu 6 100 (bl 11 127) ?_
                 refine pu 7 101 (bl 11 255) ?_
                 refine on_ 8 (some 15) (bl 11 511) (fun K hK => ?_)
                 refine box_step ?hg (N := 15) ?hd (cs := #[.int .i64 0, .slice none 0 0, .slice none 0 0, .int .u32 0, .int .i64 0, .int .i64 0, .int .i64 0, .int .u32 0]) (t := 28) ?hr ?_; (case hd => rfl); (case hg => rfl); (case hr => first | (go_simp; done) | (go_simp; rfl))
                 intro gb681 hg w188 hbox hb
                 replace HO_591001 := Aside0.mk (Kd.R_below (ro HO_591001) hb)
                 replace HO_591002 := Aside0.mk (Kd.R_below (ro HO_591002) hb)
                 replace HO_604001 := Aside0.mk (Kd.R_below (ro HO_604001) hb)
                 replace HO_604002 := Aside0.mk (Kd.R_below (ro HO_604002) hb)
                 replace HO_609001 := Aside0.mk (Kd.R_below (ro HO_609001) hb)
                 replace HO_623001 := Aside0.mk (Kd.R_below (ro HO_623001) hb)
                 replace HO_623002 := Aside0.mk (Kd.R_below (ro HO_623002) hb)
                 replace HO655 := Aside0.mk (Kd.R_below (ro HO655) hb)
                 replace HO658 := Aside0.mk (Kd.R_below (ro HO658) hb)
                 replace HO667 := Aside0.mk (Kd.R_below (ro HO667) hb)
                 replace HO671 := Aside0.mk (Kd.R_below (ro HO671) hb)
                 replace HO674 := Aside0.mk (Kd.R_below (ro HO674) hb)
                 have BK681 := Aside0.mk hbox
                 have GW681 := bz hg
                 have GE681 := bz hg
                 have NB557_681 := nl BK557 hg
                 have NB681_557 := ng BK557 hg
                 replace BK557 := b_ BK557 hb
                 have NB558_681 := nl BK558 hg
                 have NB681_558 := ng BK558 hg
                 replace BK558 := b_ BK558 hb
                 have NB590_681 := nl BK590 hg
                 have NB681_590 := ng BK590 hg
                 replace BK590 := b_ BK590 hb
                 have NB603_681 := nl BK603 hg
                 have NB681_603 := ng BK603 hg
                 replace BK603 := b_ BK603 hb
                 have NB608_681 := nl BK608 hg
                 have NB681_608 := ng BK608 hg
                 replace BK608 := b_ BK608 hb
                 have NB622_681 := nl BK622 hg
                 have NB681_622 := ng BK622 hg
                 replace BK622 := b_ BK622 hb
                 replace HB := hs hb
                 clear hb hbox hg
                 refine hK.out _ _ ⟨cx BK557, cx BK558⟩ (fun hHeld => ?_)
                 clear hK K
                 refine nm ?_
                 exact norm_ (by simp only [putAll, Act.put, List.setIfInBounds_toArray, List.set_cons_zero, List.set_cons_succ]) (hCont (.slice Ao184 t653.length co184, .slice Ao185 t656.length co185, .slice Ao186 t665.length co186, v670, v673, gb681) _ ⟨hHeld, (by (with_reducible repeat (first | apply Kd.R_alloc | apply Kd.R_drewN | apply Kd.R_drew)); exact Kd.R_mono HO655.out (fun _ hk => ⟨hk.1.1.1.1.1.1.1.1.1.1, ⟨hk.1.1.2, ⟨hk.1.2, ⟨hk.2, ⟨hk.1.1.1.1.1.1.1.1.1.2, ⟨hk.1.1.1.1.1.1.1.1.2, ⟨hk.1.1.1.1.1.1.1.2, ⟨hk.1.1.1.1.1.1.2, ⟨hk.1.1.1.1.1.2, ⟨hk.1.1.1.1.2, hk.1.1.1.2⟩⟩⟩⟩⟩⟩⟩⟩⟩⟩)), (by (with_reducible repeat (first | apply Kd.R_alloc | apply Kd.R_drewN | apply Kd.R_drew)); exact Kd.R_mono HO658.out (fun _ hk => ⟨hk.1.1.1.1.1.1.1.1.1.1, ⟨hk.1.1.2, ⟨hk.1.2, ⟨hk.2, ⟨hk.1.1.1.1.1.1.1.1.1.2, ⟨hk.1.1.1.1.1.1.1.1.2, ⟨hk.1.1.1.1.1.1.1.2, ⟨hk.1.1.1.1.1.1.2, ⟨hk.1.1.1.1.1.2, ⟨hk.1.1.1.1.2, hk.1.1.1.2⟩⟩⟩⟩⟩⟩⟩⟩⟩⟩)), (by (with_reducible repeat (first | apply Kd.R_alloc | apply Kd.R_drewN | apply Kd.R_drew)); exact Kd.R_mono HO667.out (fun _ hk => ⟨hk.1.1.1.2, ⟨hk.1.1.2, ⟨hk.1.2, ⟨hk.2, ⟨hk.1.1.1.1.1.1.1.1.1.1.2, ⟨hk.1.1.1.1.1.1.1.1.1.2, ⟨hk.1.1.1.1.1.1.1.1.2, ⟨hk.1.1.1.1.1.1.1.2, ⟨hk.1.1.1.1.1.1.2, ⟨hk.1.1.1.1.1.2, hk.1.1.1.1.2⟩⟩⟩⟩⟩⟩⟩⟩⟩⟩)), (by (with_reducible repeat (first | apply Kd.R_alloc | apply Kd.R_drewN | apply Kd.R_drew)); exact Kd.R_mono HO671.out (fun _ hk => ⟨hk.1.1.2, ⟨hk.1.2, ⟨hk.2, ⟨hk.1.1.1.1.1.1.1.1.1.1, ⟨hk.1.1.1.1.1.1.1.1.1.2, ⟨hk.1.1.1.1.1.1.1.1.2, ⟨hk.1.1.1.1.1.1.1.2, ⟨hk.1.1.1.1.1.1.2, ⟨hk.1.1.1.1.1.2, ⟨hk.1.1.1.1.2, hk.1.1.1.2⟩⟩⟩⟩⟩⟩⟩⟩⟩⟩)), (by (with_reducible repeat (first | apply Kd.R_alloc | apply Kd.R_drewN | apply Kd.R_drew)); exact Kd.R_mono HO674.out (fun _ hk => ⟨hk.1.1.2, ⟨hk.1.2, ⟨hk.2, ⟨hk.1.1.1.1.1.1.1.1.1.1, ⟨hk.1.1.1.1.1.1.1.1.1.2, ⟨hk.1.1.1.1.1.1.1.1.2, ⟨hk.1.1.1.1.1.1.1.2, ⟨hk.1.1.1.1.1.1.2, ⟨hk.1.1.1.1.1.2, ⟨hk.1.1.1.1.2, hk.1.1.1.2⟩⟩⟩⟩⟩⟩⟩⟩⟩⟩)), (by (with_reducible repeat (first | apply Kd.R_alloc | apply Kd.R_drewN | apply Kd.R_drew)); exact Kd.R_mono HO_591001.out (fun _ hk => ⟨hk.1.1.1.1.2, ⟨hk.1.1.1.2, ⟨hk.1.1.2, ⟨hk.1.2, ⟨hk.2, ⟨hk.1.1.1.1.1.1, ⟨hk.1.1.1.1.1.2.1, ⟨hk.1.1.1.1.1.2.2.1, ⟨hk.1.1.1.1.1.2.2.2.1, ⟨hk.1.1.1.1.1.2.2.2.2.1, hk.1.1.1.1.1.2.2.2.2.2⟩⟩⟩⟩⟩⟩⟩⟩⟩⟩)), (by (with_reducible repeat (first | apply Kd.R_alloc | apply Kd.R_drewN | apply Kd.R_drew)); exact Kd.R_mono HO_591002.out (fun _ hk => ⟨hk.1.1.1.1.2, ⟨hk.1.1.1.2, ⟨hk.1.1.2, ⟨hk.1.2, ⟨hk.2, ⟨hk.1.1.1.1.1.1, ⟨hk.1.1.1.1.1.2.1, ⟨hk.1.1.1.1.1.2.2.1, ⟨hk.1.1.1.1.1.2.2.2.1, ⟨hk.1.1.1.1.1.2.2.2.2.1, hk.1.1.1.1.1.2.2.2.2.2⟩⟩⟩⟩⟩⟩⟩⟩⟩⟩)), (by (with_reducible repeat (first | apply Kd.R_alloc | apply Kd.R_drewN | apply Kd.R_drew)); exact Kd.R_mono HO_604001.out (fun _ hk => ⟨hk.1.1.1.1.2, ⟨hk.1.1.1.2, ⟨hk.1.1.2, ⟨hk.1.2, ⟨hk.2, ⟨hk.1.1.1.1.1.1, ⟨hk.1.1.1.1.1.2.1, ⟨hk.1.1.1.1.1.2.2.1, ⟨hk.1.1.1.1.1.2.2.2.1, ⟨hk.1.1.1.1.1.2.2.2.2.1, hk.1.1.1.1.1.2.2.2.2.2⟩⟩⟩⟩⟩⟩⟩⟩⟩⟩)), (by (with_reducible repeat (first | apply Kd.R_alloc | apply Kd.R_drewN | apply Kd.R_drew)); exact Kd.R_mono HO_604002.out (fun _ hk => ⟨hk.1.1.1.1.2, ⟨hk.1.1.1.2, ⟨hk.1.1.2, ⟨hk.1.2, ⟨hk.2, ⟨hk.1.1.1.1.1.1, ⟨hk.1.1.1.1.1.2.1, ⟨hk.1.1.1.1.1.2.2.1, ⟨hk.1.1.1.1.1.2.2.2.1, ⟨hk.1.1.1.1.1.2.2.2.2.1, hk.1.1.1.1.1.2.2.2.2.2⟩⟩⟩⟩⟩⟩⟩⟩⟩⟩)), (by (with_reducible repeat (first | apply Kd.R_alloc | apply Kd.R_drewN | apply Kd.R_drew)); exact Kd.R_mono HO_609001.out (fun _ hk => ⟨hk.1.1.1.1.2, ⟨hk.1.1.1.2, ⟨hk.1.1.2, ⟨hk.1.2, ⟨hk.2, ⟨hk.1.1.1.1.1.1, ⟨hk.1.1.1.1.1.2.1, ⟨hk.1.1.1.1.1.2.2.1, ⟨hk.1.1.1.1.1.2.2.2.1, ⟨hk.1.1.1.1.1.2.2.2.2.1, hk.1.1.1.1.1.2.2.2.2.2⟩⟩⟩⟩⟩⟩⟩⟩⟩⟩)), (by (with_reducible repeat (first | apply Kd.R_alloc | apply Kd.R_drewN | apply Kd.R_drew)); exact Kd.R_mono HO_623001.out (fun _ hk => ⟨hk.1.1.1.1.2, ⟨hk.1.1.1.2, ⟨hk.1.1.2, ⟨hk.1.2, ⟨hk.2, ⟨hk.1.1.1.1.1.1, ⟨hk.1.1.1.1.1.2.1, ⟨hk.1.1.1.1.1.2.2.1, ⟨hk.1.1.1.1.1.2.2.2.1, ⟨hk.1.1.1.1.1.2.2.2.2.1, hk.1.1.1.1.1.2.2.2.2.2⟩⟩⟩⟩⟩⟩⟩⟩⟩⟩)), (by (with_reducible repeat (first | apply Kd.R_alloc | apply Kd.R_drewN | apply Kd.R_drew)); exact Kd.R_mono HO_623002.out (fun _ hk => ⟨hk.1.1.1.1.2, ⟨hk.1.1.1.2, ⟨hk.1.1.2, ⟨hk.1.2, ⟨hk.2, ⟨hk.1.1.1.1.1.1, ⟨hk.1.1.1.1.1.2.1, ⟨hk.1.1.1.1.1.2.2.1, ⟨hk.1.1.1.1.1.2.2.2.1, ⟨hk.1.1.1.1.1.2.2.2.2.1, hk.1.1.1.1.1.2.2.2.2.2⟩⟩⟩⟩⟩⟩⟩⟩⟩⟩)), (bk BK557), (bk BK558), (bk BK590), (bk BK603), (bk BK608), (bk BK622), (bk BK681), GW681.out, GE681.out, NB557_681.out, NB681_557.out, NB558_681.out, NB681_558.out, NB590_681.out, NB681_590.out, NB603_681.out, NB681_603.out, NB608_681.out, NB681_608.out, NB622_681.out, NB681_622.out, bw⟩)
                ·skip
                 refine box_step ?hg (N := 15) ?hd (cs := #[.int .i64 0, .slice none 0 0, .slice none 0 0, .int .u32 0, .int .i64 0, .int .i64 0, .int .i64 0, .int .u32 0]) (t := 28) ?hr ?_; (case hd => rfl); (case hg => rfl); (case hr => first | (go_simp; done) | (go_simp; rfl))
                 intro gb681 hg w184 hbox hb
                 replace HO_591001 := Aside0.mk (Kd.R_below (ro HO_591001) hb)
                 replace HO_591002 := Aside0.mk (Kd.R_below (ro HO_591002) hb)
                 replace HO_604001 := Aside0.mk (Kd.R_below (ro HO_604001) hb)
                 replace HO_604002 := Aside0.mk (Kd.R_below (ro HO_604002) hb)
                 replace HO_609001 := Aside0.mk (Kd.R_below (ro HO_609001) hb)
                 replace HO_623001 := Aside0.mk (Kd.R_below (ro HO_623001) hb)
                 replace HO_623002 := Aside0.mk (Kd.R_below (ro HO_623002) hb)
                 replace HO655 := Aside0.mk (Kd.R_below (ro HO655) hb)
                 replace HO658 := Aside0.mk (Kd.R_below (ro HO658) hb)
                 replace HO667 := Aside0.mk (Kd.R_below (ro HO667) hb)
                 have BK681 := Aside0.mk hbox
                 have GW681 := bz hg
                 have GE681 := bz hg
                 have NB557_681 := nl BK557 hg
                 have NB681_557 := ng BK557 hg
                 replace BK557 := b_ BK557 hb
                 have NB558_681 := nl BK558 hg
                 have NB681_558 := ng BK558 hg
                 replace BK558 := b_ BK558 hb
                 have NB590_681 := nl BK590 hg
                 have NB681_590 := ng BK590 hg
                 replace BK590 := b_ BK590 hb
                 have NB603_681 := nl BK603 hg
                 have NB681_603 := ng BK603 hg
                 replace BK603 := b_ BK603 hb
                 have NB608_681 := nl BK608 hg
                 have NB681_608 := ng BK608 hg
                 replace BK608 := b_ BK608 hb
                 have NB622_681 := nl BK622 hg
                 have NB681_622 := ng BK622 hg
                 replace BK622 := b_ BK622 hb
                 replace HB := hs hb
                 clear hb hbox hg
                 obtain ⟨Ao185, co185, eo185⟩ := Kd.R_slice HO655.out
                 (first | subst eo185 | (injection eo185 with f1_ f2_ f3_; have f4_ := f1_.symm; have f5_ := f3_.symm; clear f1_ f2_ f3_; subst f4_; subst f5_))
                 obtain ⟨Ao186, co186, eo186⟩ := Kd.R_slice HO658.out
                 (first | subst eo186 | (injection eo186 with f1_ f2_ f3_; have f4_ := f1_.symm; have f5_ := f3_.symm; clear f1_ f2_ f3_; subst f4_; subst f5_))
                 obtain ⟨Ao187, co187, eo187⟩ := Kd.R_slice HO667.out
                 (first | subst eo187 | (injection eo187 with f1_ f2_ f3_; have f4_ := f1_.symm; have f5_ := f3_.symm; clear f1_ f2_ f3_; subst f4_; subst f5_))
                 refine hK.out _ _ ⟨cx BK557, cx BK558⟩ (fun hHeld => ?_)
                 clear hK K
                 refine nm ?_
                 refine on_ 4 (some 99) (bl 11 287) (fun K hK => ?_)
                 refine gq Tryd.func18 (impl_WarpSubmit.calls _ _ Ao185 co185 _ Ao186 co186 _ _ _ _ _ _ _ Ao187 co187 _ _ _ _ _ _ _ _ _ _ _ (cr HO655) ((Kd.R_reads' HO655.out).2.1) (cr HO658) ((Kd.R_reads' HO658.out).2.1) (cr HO667) ((Kd.R_reads' HO667.out).2.1) A179.out (hT.below bw)) ?_
                 rintro e w188 ⟨v670, v673, rfl, ho0, ho1, hb⟩
                 refine ⟨_, rfl, ?_⟩
                 have HO671 := Aside0.mk (Kd.R_lower (Kd.R_new' (Kd.R_new' (Kd.R_new' (Kd.R_new' (Kd.R_new' (Kd.R_new' (Kd.R_new' (Kd.R_new' (Kd.R_new' (Kd.R_new' ho0 (Kd.R_lt (ro HO_591001))) (Kd.R_lt (ro HO_591002))) (Kd.R_lt (ro HO_604001))) (Kd.R_lt (ro HO_604002))) (Kd.R_lt (ro HO_609001))) (Kd.R_lt (ro HO_623001))) (Kd.R_lt (ro HO_623002))) (Kd.R_lt (ro HO655))) (Kd.R_lt (ro HO658))) (Kd.R_lt (ro HO667))) (below_size bw))
                 have HO674 := Aside0.mk (Kd.R_lower (Kd.R_new' (Kd.R_new' (Kd.R_new' (Kd.R_new' (Kd.R_new' (Kd.R_new' (Kd.R_new' (Kd.R_new' (Kd.R_new' (Kd.R_new' ho1 (Kd.R_lt (ro HO_591001))) (Kd.R_lt (ro HO_591002))) (Kd.R_lt (ro HO_604001))) (Kd.R_lt (ro HO_604002))) (Kd.R_lt (ro HO_609001))) (Kd.R_lt (ro HO_623001))) (Kd.R_lt (ro HO_623002))) (Kd.R_lt (ro HO655))) (Kd.R_lt (ro HO658))) (Kd.R_lt (ro HO667))) (below_size bw))
                 replace HO_591001 := Aside0.mk (Kd.R_mono (Kd.R_told (Kd.R_told (Kd.R_old (ro HO_591001) hb) (Kd.R_base ho0)) (Kd.R_base ho1)) (fun _ h_ => h_.1))
                 replace HO_591002 := Aside0.mk (Kd.R_mono (Kd.R_told (Kd.R_told (Kd.R_old (ro HO_591002) hb) (Kd.R_base ho0)) (Kd.R_base ho1)) (fun _ h_ => h_.1))
                 replace HO_604001 := Aside0.mk (Kd.R_mono (Kd.R_told (Kd.R_told (Kd.R_old (ro HO_604001) hb) (Kd.R_base ho0)) (Kd.R_base ho1)) (fun _ h_ => h_.1))
                 replace HO_604002 := Aside0.mk (Kd.R_mono (Kd.R_told (Kd.R_told (Kd.R_old (ro HO_604002) hb) (Kd.R_base ho0)) (Kd.R_base ho1)) (fun _ h_ => h_.1))
                 replace HO_609001 := Aside0.mk (Kd.R_mono (Kd.R_told (Kd.R_told (Kd.R_old (ro HO_609001) hb) (Kd.R_base ho0)) (Kd.R_base ho1)) (fun _ h_ => h_.1))
                 replace HO_623001 := Aside0.mk (Kd.R_mono (Kd.R_told (Kd.R_told (Kd.R_old (ro HO_623001) hb) (Kd.R_base ho0)) (Kd.R_base ho1)) (fun _ h_ => h_.1))
                 replace HO_623002 := Aside0.mk (Kd.R_mono (Kd.R_told (Kd.R_told (Kd.R_old (ro HO_623002) hb) (Kd.R_base ho0)) (Kd.R_base ho1)) (fun _ h_ => h_.1))
                 replace HO655 := Aside0.mk (Kd.R_mono (Kd.R_told (Kd.R_told (Kd.R_old (ro HO655) hb) (Kd.R_base ho0)) (Kd.R_base ho1)) (fun _ h_ => h_.1))
                 replace HO658 := Aside0.mk (Kd.R_mono (Kd.R_told (Kd.R_told (Kd.R_old (ro HO658) hb) (Kd.R_base ho0)) (Kd.R_base ho1)) (fun _ h_ => h_.1))
                 replace HO667 := Aside0.mk (Kd.R_mono (Kd.R_told (Kd.R_told (Kd.R_old (ro HO667) hb) (Kd.R_base ho0)) (Kd.R_base ho1)) (fun _ h_ => h_.1))
                 replace BK557 := b_ BK557 hb
                 replace BK558 := b_ BK558 hb
                 replace BK590 := b_ BK590 hb
                 replace BK603 := b_ BK603 hb
                 replace BK608 := b_ BK608 hb
                 replace BK622 := b_ BK622 hb
                 replace BK681 := b_ BK681 hb
                 replace HB := hs hb
                 (try clear hb)
                 (try clear hb2)
                 (try clear hk)
                 (try clear hi)
                 (try clear ho0)
                 (try clear ho1)
                 refine hK.out _ _ ⟨cx BK557, cx BK558⟩ (fun hHeld => ?_)
                 clear hK K
                 refine nm ?_
                 refine pu 5 94 (bl 11 319) ?_
                 refine pu 6 100 (bl 11 383) ?_
                 refine pu 7 101 (bl 11 511) ?_
                 exact norm_ (by simp only [putAll, Act.put, List.setIfInBounds_toArray, List.set_cons_zero, List.set_cons_succ]) (hCont (.slice Ao185 t653.length co185, .slice Ao186 t656.length co186, .slice Ao187 t665.length co187, v670, v673, gb681) _ ⟨hHeld, (by (with_reducible repeat (first | apply Kd.R_alloc | apply Kd.R_drewN | apply Kd.R_drew)); exact Kd.R_mono HO655.out (fun _ hk => ⟨hk.1.1.1.1.1.1.1.1.1.1, ⟨hk.1.1.2, ⟨hk.1.2, ⟨hk.2, ⟨hk.1.1.1.1.1.1.1.1.1.2, ⟨hk.1.1.1.1.1.1.1.1.2, ⟨hk.1.1.1.1.1.1.1.2, ⟨hk.1.1.1.1.1.1.2, ⟨hk.1.1.1.1.1.2, ⟨hk.1.1.1.1.2, hk.1.1.1.2⟩⟩⟩⟩⟩⟩⟩⟩⟩⟩)), (by (with_reducible repeat (first | apply Kd.R_alloc | apply Kd.R_drewN | apply Kd.R_drew)); exact Kd.R_mono HO658.out (fun _ hk => ⟨hk.1.1.1.1.1.1.1.1.1.1, ⟨hk.1.1.2, ⟨hk.1.2, ⟨hk.2, ⟨hk.1.1.1.1.1.1.1.1.1.2, ⟨hk.1.1.1.1.1.1.1.1.2, ⟨hk.1.1.1.1.1.1.1.2, ⟨hk.1.1.1.1.1.1.2, ⟨hk.1.1.1.1.1.2, ⟨hk.1.1.1.1.2, hk.1.1.1.2⟩⟩⟩⟩⟩⟩⟩⟩⟩⟩)), (by (with_reducible repeat (first | apply Kd.R_alloc | apply Kd.R_drewN | apply Kd.R_drew)); exact Kd.R_mono HO667.out (fun _ hk => ⟨hk.1.1.1.2, ⟨hk.1.1.2, ⟨hk.1.2, ⟨hk.2, ⟨hk.1.1.1.1.1.1.1.1.1.1.2, ⟨hk.1.1.1.1.1.1.1.1.1.2, ⟨hk.1.1.1.1.1.1.1.1.2, ⟨hk.1.1.1.1.1.1.1.2, ⟨hk.1.1.1.1.1.1.2, ⟨hk.1.1.1.1.1.2, hk.1.1.1.1.2⟩⟩⟩⟩⟩⟩⟩⟩⟩⟩)), (by (with_reducible repeat (first | apply Kd.R_alloc | apply Kd.R_drewN | apply Kd.R_drew)); exact Kd.R_mono HO671.out (fun _ hk => ⟨hk.1.1.2, ⟨hk.1.2, ⟨hk.2, ⟨hk.1.1.1.1.1.1.1.1.1.1, ⟨hk.1.1.1.1.1.1.1.1.1.2, ⟨hk.1.1.1.1.1.1.1.1.2, ⟨hk.1.1.1.1.1.1.1.2, ⟨hk.1.1.1.1.1.1.2, ⟨hk.1.1.1.1.1.2, ⟨hk.1.1.1.1.2, hk.1.1.1.2⟩⟩⟩⟩⟩⟩⟩⟩⟩⟩)), (by (with_reducible repeat (first | apply Kd.R_alloc | apply Kd.R_drewN | apply Kd.R_drew)); exact Kd.R_mono HO674.out (fun _ hk => ⟨hk.1.1.2, ⟨hk.1.2, ⟨hk.2, ⟨hk.1.1.1.1.1.1.1.1.1.1, ⟨hk.1.1.1.1.1.1.1.1.1.2, ⟨hk.1.1.1.1.1.1.1.1.2, ⟨hk.1.1.1.1.1.1.1.2, ⟨hk.1.1.1.1.1.1.2, ⟨hk.1.1.1.1.1.2, ⟨hk.1.1.1.1.2, hk.1.1.1.2⟩⟩⟩⟩⟩⟩⟩⟩⟩⟩)), (by (with_reducible repeat (first | apply Kd.R_alloc | apply Kd.R_drewN | apply Kd.R_drew)); exact Kd.R_mono HO_591001.out (fun _ hk => ⟨hk.1.1.1.1.2, ⟨hk.1.1.1.2, ⟨hk.1.1.2, ⟨hk.1.2, ⟨hk.2, ⟨hk.1.1.1.1.1.1, ⟨hk.1.1.1.1.1.2.1, ⟨hk.1.1.1.1.1.2.2.1, ⟨hk.1.1.1.1.1.2.2.2.1, ⟨hk.1.1.1.1.1.2.2.2.2.1, hk.1.1.1.1.1.2.2.2.2.2⟩⟩⟩⟩⟩⟩⟩⟩⟩⟩)), (by (with_reducible repeat (first | apply Kd.R_alloc | apply Kd.R_drewN | apply Kd.R_drew)); exact Kd.R_mono HO_591002.out (fun _ hk => ⟨hk.1.1.1.1.2, ⟨hk.1.1.1.2, ⟨hk.1.1.2, ⟨hk.1.2, ⟨hk.2, ⟨hk.1.1.1.1.1.1, ⟨hk.1.1.1.1.1.2.1, ⟨hk.1.1.1.1.1.2.2.1, ⟨hk.1.1.1.1.1.2.2.2.1, ⟨hk.1.1.1.1.1.2.2.2.2.1, hk.1.1.1.1.1.2.2.2.2.2⟩⟩⟩⟩⟩⟩⟩⟩⟩⟩)), (by (with_reducible repeat (first | apply Kd.R_alloc | apply Kd.R_drewN | apply Kd.R_drew)); exact Kd.R_mono HO_604001.out (fun _ hk => ⟨hk.1.1.1.1.2, ⟨hk.1.1.1.2, ⟨hk.1.1.2, ⟨hk.1.2, ⟨hk.2, ⟨hk.1.1.1.1.1.1, ⟨hk.1.1.1.1.1.2.1, ⟨hk.1.1.1.1.1.2.2.1, ⟨hk.1.1.1.1.1.2.2.2.1, ⟨hk.1.1.1.1.1.2.2.2.2.1, hk.1.1.1.1.1.2.2.2.2.2⟩⟩⟩⟩⟩⟩⟩⟩⟩⟩)), (by (with_reducible repeat (first | apply Kd.R_alloc | apply Kd.R_drewN | apply Kd.R_drew)); exact Kd.R_mono HO_604002.out (fun _ hk => ⟨hk.1.1.1.1.2, ⟨hk.1.1.1.2, ⟨hk.1.1.2, ⟨hk.1.2, ⟨hk.2, ⟨hk.1.1.1.1.1.1, ⟨hk.1.1.1.1.1.2.1, ⟨hk.1.1.1.1.1.2.2.1, ⟨hk.1.1.1.1.1.2.2.2.1, ⟨hk.1.1.1.1.1.2.2.2.2.1, hk.1.1.1.1.1.2.2.2.2.2⟩⟩⟩⟩⟩⟩⟩⟩⟩⟩)), (by (with_reducible repeat (first | apply Kd.R_alloc | apply Kd.R_drewN | apply Kd.R_drew)); exact Kd.R_mono HO_609001.out (fun _ hk => ⟨hk.1.1.1.1.2, ⟨hk.1.1.1.2, ⟨hk.1.1.2, ⟨hk.1.2, ⟨hk.2, ⟨hk.1.1.1.1.1.1, ⟨hk.1.1.1.1.1.2.1, ⟨hk.1.1.1.1.1.2.2.1, ⟨hk.1.1.1.1.1.2.2.2.1, ⟨hk.1.1.1.1.1.2.2.2.2.1, hk.1.1.1.1.1.2.2.2.2.2⟩⟩⟩⟩⟩⟩⟩⟩⟩⟩)), (by (with_reducible repeat (first | apply Kd.R_alloc | apply Kd.R_drewN | apply Kd.R_drew)); exact Kd.R_mono HO_623001.out (fun _ hk => ⟨hk.1.1.1.1.2, ⟨hk.1.1.1.2, ⟨hk.1.1.2, ⟨hk.1.2, ⟨hk.2, ⟨hk.1.1.1.1.1.1, ⟨hk.1.1.1.1.1.2.1, ⟨hk.1.1.1.1.1.2.2.1, ⟨hk.1.1.1.1.1.2.2.2.1, ⟨hk.1.1.1.1.1.2.2.2.2.1, hk.1.1.1.1.1.2.2.2.2.2⟩⟩⟩⟩⟩⟩⟩⟩⟩⟩)), (by (with_reducible repeat (first | apply Kd.R_alloc | apply Kd.R_drewN | apply Kd.R_drew)); exact Kd.R_mono HO_623002.out (fun _ hk => ⟨hk.1.1.1.1.2, ⟨hk.1.1.1.2, ⟨hk.1.1.2, ⟨hk.1.2, ⟨hk.2, ⟨hk.1.1.1.1.1.1, ⟨hk.1.1.1.1.1.2.1, ⟨hk.1.1.1.1.1.2.2.1, ⟨hk.1.1.1.1.1.2.2.2.1, ⟨hk.1.1.1.1.1.2.2.2.2.1, hk.1.1.1.1.1.2.2.2.2.2⟩⟩⟩⟩⟩⟩⟩⟩⟩⟩)), (bk BK557), (bk BK558), (bk BK590), (bk BK603), (bk BK608), (bk BK622), (bk BK681), GW681.out, GE681.out, NB557_681.out, NB681_557.out, NB558_681.out, NB681_558.out, NB590_681.out, NB681_590.out, NB603_681.out, NB681_603.out, NB608_681.out, NB681_608.out, NB622_681.out, NB681_622.out, bw⟩)
               ·skip
                refine box_step ?hg (N := 15) ?hd (cs := #[.int .i64 0, .slice none 0 0, .slice none 0 0, .int .u32 0, .int .i64 0, .int .i64 0, .int .i64 0, .int .u32 0]) (t := 28) ?hr ?_; (case hd => rfl); (case hg => rfl); (case hr => first | (go_simp; done) | (go_simp; rfl))
                intro gb681 hg w183 hbox hb
                replace HO_591001 := Aside0.mk (Kd.R_below (ro HO_591001) hb)
                replace HO_591002 := Aside0.mk (Kd.R_below (ro HO_591002) hb)
                replace HO_604001 := Aside0.mk (Kd.R_below (ro HO_604001) hb)
                replace HO_604002 := Aside0.mk (Kd.R_below (ro HO_604002) hb)
                replace HO_609001 := Aside0.mk (Kd.R_below (ro HO_609001) hb)
                replace HO_623001 := Aside0.mk (Kd.R_below (ro HO_623001) hb)
                replace HO_623002 := Aside0.mk (Kd.R_below (ro HO_623002) hb)
                replace HO655 := Aside0.mk (Kd.R_below (ro HO655) hb)
                replace HO658 := Aside0.mk (Kd.R_below (ro HO658) hb)
                have BK681 := Aside0.mk hbox
                have GW681 := bz hg
                have GE681 := bz hg
                have NB557_681 := nl BK557 hg
                have NB681_557 := ng BK557 hg
                replace BK557 := b_ BK557 hb
                have NB558_681 := nl BK558 hg
                have NB681_558 := ng BK558 hg
                replace BK558 := b_ BK558 hb
                have NB590_681 := nl BK590 hg
                have NB681_590 := ng BK590 hg
                replace BK590 := b_ BK590 hb
                have NB603_681 := nl BK603 hg
                have NB681_603 := ng BK603 hg
                replace BK603 := b_ BK603 hb
                have NB608_681 := nl BK608 hg
                have NB681_608 := ng BK608 hg
                replace BK608 := b_ BK608 hb
                have NB622_681 := nl BK622 hg
                have NB681_622 := ng BK622 hg
                replace BK622 := b_ BK622 hb
                replace HB := hs hb
                clear hb hbox hg
                refine hK.out _ _ ⟨cx BK557, cx BK558⟩ (fun hHeld => ?_)
                clear hK K
                refine nm ?_
                refine on_ 3 (some 98) (bl 11 271) (fun K hK => ?_)
                refine gq Tryd.func17 (laws_toReq.calls _ _ A1_1 c1_1 _ _ _ _ (cb HR1_1) HC1_1.out A178.out) ?_
                rintro e w184 ⟨v666, rfl, ho0, hb⟩
                refine ⟨_, rfl, ?_⟩
                have HO667 := Aside0.mk (Kd.R_lower (Kd.R_new' (Kd.R_new' (Kd.R_new' (Kd.R_new' (Kd.R_new' (Kd.R_new' (Kd.R_new' (Kd.R_new' (Kd.R_new' ho0 (Kd.R_lt (ro HO_591001))) (Kd.R_lt (ro HO_591002))) (Kd.R_lt (ro HO_604001))) (Kd.R_lt (ro HO_604002))) (Kd.R_lt (ro HO_609001))) (Kd.R_lt (ro HO_623001))) (Kd.R_lt (ro HO_623002))) (Kd.R_lt (ro HO655))) (Kd.R_lt (ro HO658))) (below_size bw))
                replace HO_591001 := Aside0.mk (Kd.R_elder' (ro HO_591001) (Kd.R_base ho0) hb)
                replace HO_591002 := Aside0.mk (Kd.R_elder' (ro HO_591002) (Kd.R_base ho0) hb)
                replace HO_604001 := Aside0.mk (Kd.R_elder' (ro HO_604001) (Kd.R_base ho0) hb)
                replace HO_604002 := Aside0.mk (Kd.R_elder' (ro HO_604002) (Kd.R_base ho0) hb)
                replace HO_609001 := Aside0.mk (Kd.R_elder' (ro HO_609001) (Kd.R_base ho0) hb)
                replace HO_623001 := Aside0.mk (Kd.R_elder' (ro HO_623001) (Kd.R_base ho0) hb)
                replace HO_623002 := Aside0.mk (Kd.R_elder' (ro HO_623002) (Kd.R_base ho0) hb)
                replace HO655 := Aside0.mk (Kd.R_elder' (ro HO655) (Kd.R_base ho0) hb)
                replace HO658 := Aside0.mk (Kd.R_elder' (ro HO658) (Kd.R_base ho0) hb)
                replace BK557 := b_ BK557 hb
                replace BK558 := b_ BK558 hb
                replace BK590 := b_ BK590 hb
                replace BK603 := b_ BK603 hb
                replace BK608 := b_ BK608 hb
                replace BK622 := b_ BK622 hb
                replace BK681 := b_ BK681 hb
                replace HB := hs hb
                (try clear hb)
                (try clear hb2)
                (try clear hk)
                (try clear hi)
                (try clear ho0)
                obtain ⟨Ao185, co185, eo185⟩ := Kd.R_slice HO655.out
                (first | subst eo185 | (injection eo185 with f1_ f2_ f3_; have f4_ := f1_.symm; have f5_ := f3_.symm; clear f1_ f2_ f3_; subst f4_; subst f5_))
                obtain ⟨Ao186, co186, eo186⟩ := Kd.R_slice HO658.out
                (first | subst eo186 | (injection eo186 with f1_ f2_ f3_; have f4_ := f1_.symm; have f5_ := f3_.symm; clear f1_ f2_ f3_; subst f4_; subst f5_))
                obtain ⟨Ao187, co187, eo187⟩ := Kd.R_slice HO667.out
                (first | subst eo187 | (injection eo187 with f1_ f2_ f3_; have f4_ := f1_.symm; have f5_ := f3_.symm; clear f1_ f2_ f3_; subst f4_; subst f5_))
                refine hK.out _ _ ⟨cx BK557, cx BK558⟩ (fun hHeld => ?_)
                clear hK K
                refine nm ?_
                refine on_ 4 (some 99) (bl 11 287) (fun K hK => ?_)
                refine gq Tryd.func18 (impl_WarpSubmit.calls _ _ Ao185 co185 _ Ao186 co186 _ _ _ _ _ _ _ Ao187 co187 _ _ _ _ _ _ _ _ _ _ _ (cr HO655) ((Kd.R_reads' HO655.out).2.1) (cr HO658) ((Kd.R_reads' HO658.out).2.1) (cr HO667) ((Kd.R_reads' HO667.out).2.1) A179.out (hT.below bw)) ?_
                rintro e w188 ⟨v670, v673, rfl, ho0, ho1, hb⟩
                refine ⟨_, rfl, ?_⟩
                have HO671 := Aside0.mk (Kd.R_lower (Kd.R_new' (Kd.R_new' (Kd.R_new' (Kd.R_new' (Kd.R_new' (Kd.R_new' (Kd.R_new' (Kd.R_new' (Kd.R_new' (Kd.R_new' ho0 (Kd.R_lt (ro HO_591001))) (Kd.R_lt (ro HO_591002))) (Kd.R_lt (ro HO_604001))) (Kd.R_lt (ro HO_604002))) (Kd.R_lt (ro HO_609001))) (Kd.R_lt (ro HO_623001))) (Kd.R_lt (ro HO_623002))) (Kd.R_lt (ro HO655))) (Kd.R_lt (ro HO658))) (Kd.R_lt (ro HO667))) (below_size bw))
                have HO674 := Aside0.mk (Kd.R_lower (Kd.R_new' (Kd.R_new' (Kd.R_new' (Kd.R_new' (Kd.R_new' (Kd.R_new' (Kd.R_new' (Kd.R_new' (Kd.R_new' (Kd.R_new' ho1 (Kd.R_lt (ro HO_591001))) (Kd.R_lt (ro HO_591002))) (Kd.R_lt (ro HO_604001))) (Kd.R_lt (ro HO_604002))) (Kd.R_lt (ro HO_609001))) (Kd.R_lt (ro HO_623001))) (Kd.R_lt (ro HO_623002))) (Kd.R_lt (ro HO655))) (Kd.R_lt (ro HO658))) (Kd.R_lt (ro HO667))) (below_size bw))
                replace HO_591001 := Aside0.mk (Kd.R_mono (Kd.R_told (Kd.R_told (Kd.R_old (ro HO_591001) hb) (Kd.R_base ho0)) (Kd.R_base ho1)) (fun _ h_ => h_.1))
                replace HO_591002 := Aside0.mk (Kd.R_mono (Kd.R_told (Kd.R_told (Kd.R_old (ro HO_591002) hb) (Kd.R_base ho0)) (Kd.R_base ho1)) (fun _ h_ => h_.1))
                replace HO_604001 := Aside0.mk (Kd.R_mono (Kd.R_told (Kd.R_told (Kd.R_old (ro HO_604001) hb) (Kd.R_base ho0)) (Kd.R_base ho1)) (fun _ h_ => h_.1))
                replace HO_604002 := Aside0.mk (Kd.R_mono (Kd.R_told (Kd.R_told (Kd.R_old (ro HO_604002) hb) (Kd.R_base ho0)) (Kd.R_base ho1)) (fun _ h_ => h_.1))
                replace HO_609001 := Aside0.mk (Kd.R_mono (Kd.R_told (Kd.R_told (Kd.R_old (ro HO_609001) hb) (Kd.R_base ho0)) (Kd.R_base ho1)) (fun _ h_ => h_.1))
                replace HO_623001 := Aside0.mk (Kd.R_mono (Kd.R_told (Kd.R_told (Kd.R_old (ro HO_623001) hb) (Kd.R_base ho0)) (Kd.R_base ho1)) (fun _ h_ => h_.1))
                replace HO_623002 := Aside0.mk (Kd.R_mono (Kd.R_told (Kd.R_told (Kd.R_old (ro HO_623002) hb) (Kd.R_base ho0)) (Kd.R_base ho1)) (fun _ h_ => h_.1))
                replace HO655 := Aside0.mk (Kd.R_mono (Kd.R_told (Kd.R_told (Kd.R_old (ro HO655) hb) (Kd.R_base ho0)) (Kd.R_base ho1)) (fun _ h_ => h_.1))
                replace HO658 := Aside0.mk (Kd.R_mono (Kd.R_told (Kd.R_told (Kd.R_old (ro HO658) hb) (Kd.R_base ho0)) (Kd.R_base ho1)) (fun _ h_ => h_.1))
                replace HO667 := Aside0.mk (Kd.R_mono (Kd.R_told (Kd.R_told (Kd.R_old (ro HO667) hb) (Kd.R_base ho0)) (Kd.R_base ho1)) (fun _ h_ => h_.1))
                replace BK557 := b_ BK557 hb
                replace BK558 := b_ BK558 hb
                replace BK590 := b_ BK590 hb
                replace BK603 := b_ BK603 hb
                replace BK608 := b_ BK608 hb
                replace BK622 := b_ BK622 hb
                replace BK681 := b_ BK681 hb
                replace HB := hs hb
                (try clear hb)
                (try clear hb2)
                (try clear hk)
                (try clear hi)
                (try clear ho0)
                (try clear ho1)
                refine hK.out _ _ ⟨cx BK557, cx BK558⟩ (fun hHeld => ?_)
                clear hK K
                refine nm ?_
                refine pu 5 94 (bl 11 319) ?_
                refine pu 6 100 (bl 11 383) ?_
                refine pu 7 101 (bl 11 511) ?_
                exact norm_ (by simp only [putAll, Act.put, List.setIfInBounds_toArray, List.set_cons_zero, List.set_cons_succ]) (hCont (.slice Ao185 t653.length co185, .slice Ao186 t656.length co186, .slice Ao187 t665.length co187, v670, v673, gb681) _ ⟨hHeld, (by (with_reducible repeat (first | apply Kd.R_alloc | apply Kd.R_drewN | apply Kd.R_drew)); exact Kd.R_mono HO655.out (fun _ hk => ⟨hk.1.1.1.1.1.1.1.1.1.1, ⟨hk.1.1.2, ⟨hk.1.2, ⟨hk.2, ⟨hk.1.1.1.1.1.1.1.1.1.2, ⟨hk.1.1.1.1.1.1.1.1.2, ⟨hk.1.1.1.1.1.1.1.2, ⟨hk.1.1.1.1.1.1.2, ⟨hk.1.1.1.1.1.2, ⟨hk.1.1.1.1.2, hk.1.1.1.2⟩⟩⟩⟩⟩⟩⟩⟩⟩⟩)), (by (with_reducible repeat (first | apply Kd.R_alloc | apply Kd.R_drewN | apply Kd.R_drew)); exact Kd.R_mono HO658.out (fun _ hk => ⟨hk.1.1.1.1.1.1.1.1.1.1, ⟨hk.1.1.2, ⟨hk.1.2, ⟨hk.2, ⟨hk.1.1.1.1.1.1.1.1.1.2, ⟨hk.1.1.1.1.1.1.1.1.2, ⟨hk.1.1.1.1.1.1.1.2, ⟨hk.1.1.1.1.1.1.2, ⟨hk.1.1.1.1.1.2, ⟨hk.1.1.1.1.2, hk.1.1.1.2⟩⟩⟩⟩⟩⟩⟩⟩⟩⟩)), (by (with_reducible repeat (first | apply Kd.R_alloc | apply Kd.R_drewN | apply Kd.R_drew)); exact Kd.R_mono HO667.out (fun _ hk => ⟨hk.1.1.1.2, ⟨hk.1.1.2, ⟨hk.1.2, ⟨hk.2, ⟨hk.1.1.1.1.1.1.1.1.1.1.2, ⟨hk.1.1.1.1.1.1.1.1.1.2, ⟨hk.1.1.1.1.1.1.1.1.2, ⟨hk.1.1.1.1.1.1.1.2, ⟨hk.1.1.1.1.1.1.2, ⟨hk.1.1.1.1.1.2, hk.1.1.1.1.2⟩⟩⟩⟩⟩⟩⟩⟩⟩⟩)), (by (with_reducible repeat (first | apply Kd.R_alloc | apply Kd.R_drewN | apply Kd.R_drew)); exact Kd.R_mono HO671.out (fun _ hk => ⟨hk.1.1.2, ⟨hk.1.2, ⟨hk.2, ⟨hk.1.1.1.1.1.1.1.1.1.1, ⟨hk.1.1.1.1.1.1.1.1.1.2, ⟨hk.1.1.1.1.1.1.1.1.2, ⟨hk.1.1.1.1.1.1.1.2, ⟨hk.1.1.1.1.1.1.2, ⟨hk.1.1.1.1.1.2, ⟨hk.1.1.1.1.2, hk.1.1.1.2⟩⟩⟩⟩⟩⟩⟩⟩⟩⟩)), (by (with_reducible repeat (first | apply Kd.R_alloc | apply Kd.R_drewN | apply Kd.R_drew)); exact Kd.R_mono HO674.out (fun _ hk => ⟨hk.1.1.2, ⟨hk.1.2, ⟨hk.2, ⟨hk.1.1.1.1.1.1.1.1.1.1, ⟨hk.1.1.1.1.1.1.1.1.1.2, ⟨hk.1.1.1.1.1.1.1.1.2, ⟨hk.1.1.1.1.1.1.1.2, ⟨hk.1.1.1.1.1.1.2, ⟨hk.1.1.1.1.1.2, ⟨hk.1.1.1.1.2, hk.1.1.1.2⟩⟩⟩⟩⟩⟩⟩⟩⟩⟩)), (by (with_reducible repeat (first | apply Kd.R_alloc | apply Kd.R_drewN | apply Kd.R_drew)); exact Kd.R_mono HO_591001.out (fun _ hk => ⟨hk.1.1.1.1.2, ⟨hk.1.1.1.2, ⟨hk.1.1.2, ⟨hk.1.2, ⟨hk.2, ⟨hk.1.1.1.1.1.1, ⟨hk.1.1.1.1.1.2.1, ⟨hk.1.1.1.1.1.2.2.1, ⟨hk.1.1.1.1.1.2.2.2.1, ⟨hk.1.1.1.1.1.2.2.2.2.1, hk.1.1.1.1.1.2.2.2.2.2⟩⟩⟩⟩⟩⟩⟩⟩⟩⟩)), (by (with_reducible repeat (first | apply Kd.R_alloc | apply Kd.R_drewN | apply Kd.R_drew)); exact Kd.R_mono HO_591002.out (fun _ hk => ⟨hk.1.1.1.1.2, ⟨hk.1.1.1.2, ⟨hk.1.1.2, ⟨hk.1.2, ⟨hk.2, ⟨hk.1.1.1.1.1.1, ⟨hk.1.1.1.1.1.2.1, ⟨hk.1.1.1.1.1.2.2.1, ⟨hk.1.1.1.1.1.2.2.2.1, ⟨hk.1.1.1.1.1.2.2.2.2.1, hk.1.1.1.1.1.2.2.2.2.2⟩⟩⟩⟩⟩⟩⟩⟩⟩⟩)), (by (with_reducible repeat (first | apply Kd.R_alloc | apply Kd.R_drewN | apply Kd.R_drew)); exact Kd.R_mono HO_604001.out (fun _ hk => ⟨hk.1.1.1.1.2, ⟨hk.1.1.1.2, ⟨hk.1.1.2, ⟨hk.1.2, ⟨hk.2, ⟨hk.1.1.1.1.1.1, ⟨hk.1.1.1.1.1.2.1, ⟨hk.1.1.1.1.1.2.2.1, ⟨hk.1.1.1.1.1.2.2.2.1, ⟨hk.1.1.1.1.1.2.2.2.2.1, hk.1.1.1.1.1.2.2.2.2.2⟩⟩⟩⟩⟩⟩⟩⟩⟩⟩)), (by (with_reducible repeat (first | apply Kd.R_alloc | apply Kd.R_drewN | apply Kd.R_drew)); exact Kd.R_mono HO_604002.out (fun _ hk => ⟨hk.1.1.1.1.2, ⟨hk.1.1.1.2, ⟨hk.1.1.2, ⟨hk.1.2, ⟨hk.2, ⟨hk.1.1.1.1.1.1, ⟨hk.1.1.1.1.1.2.1, ⟨hk.1.1.1.1.1.2.2.1, ⟨hk.1.1.1.1.1.2.2.2.1, ⟨hk.1.1.1.1.1.2.2.2.2.1, hk.1.1.1.1.1.2.2.2.2.2⟩⟩⟩⟩⟩⟩⟩⟩⟩⟩)), (by (with_reducible repeat (first | apply Kd.R_alloc | apply Kd.R_drewN | apply Kd.R_drew)); exact Kd.R_mono HO_609001.out (fun _ hk => ⟨hk.1.1.1.1.2, ⟨hk.1.1.1.2, ⟨hk.1.1.2, ⟨hk.1.2, ⟨hk.2, ⟨hk.1.1.1.1.1.1, ⟨hk.1.1.1.1.1.2.1, ⟨hk.1.1.1.1.1.2.2.1, ⟨hk.1.1.1.1.1.2.2.2.1, ⟨hk.1.1.1.1.1.2.2.2.2.1, hk.1.1.1.1.1.2.2.2.2.2⟩⟩⟩⟩⟩⟩⟩⟩⟩⟩)), (by (with_reducible repeat (first | apply Kd.R_alloc | apply Kd.R_drewN | apply Kd.R_drew)); exact Kd.R_mono HO_623001.out (fun _ hk => ⟨hk.1.1.1.1.2, ⟨hk.1.1.1.2, ⟨hk.1.1.2, ⟨hk.1.2, ⟨hk.2, ⟨hk.1.1.1.1.1.1, ⟨hk.1.1.1.1.1.2.1, ⟨hk.1.1.1.1.1.2.2.1, ⟨hk.1.1.1.1.1.2.2.2.1, ⟨hk.1.1.1.1.1.2.2.2.2.1, hk.1.1.1.1.1.2.2.2.2.2⟩⟩⟩⟩⟩⟩⟩⟩⟩⟩)), (by (with_reducible repeat (first | apply Kd.R_alloc | apply Kd.R_drewN | apply Kd.R_drew)); exact Kd.R_mono HO_623002.out (fun _ hk => ⟨hk.1.1.1.1.2, ⟨hk.1.1.1.2, ⟨hk.1.1.2, ⟨hk.1.2, ⟨hk.2, ⟨hk.1.1.1.1.1.1, ⟨hk.1.1.1.1.1.2.1, ⟨hk.1.1.1.1.1.2.2.1, ⟨hk.1.1.1.1.1.2.2.2.1, ⟨hk.1.1.1.1.1.2.2.2.2.1, hk.1.1.1.1.1.2.2.2.2.2⟩⟩⟩⟩⟩⟩⟩⟩⟩⟩)), (bk BK557), (bk BK558), (bk BK590), (bk BK603), (bk BK608), (bk BK622), (bk BK681), GW681.out, GE681.out, NB557_681.out, NB681_557.out, NB558_681.out, NB681_558.out, NB590_681.out, NB681_590.out, NB603_681.out, NB681_603.out, NB608_681.out, NB681_608.out, NB622_681.out, NB681_622.out, bw⟩)
              ·skip
               refine box_step ?hg (N := 15) ?hd (cs := #[.int .i64 0, .slice none 0 0, .slice none 0 0, .int .u32 0, .int .i64 0, .int .i64 0, .int .i64 0, .int .u32 0]) (t := 28) ?hr ?_; (case hd => rfl); (case hg => rfl); (case hr => first | (go_simp; done) | (go_simp; rfl))
               intro gb681 hg w182 hbox hb
               replace HO_591001 := Aside0.mk (Kd.R_below (ro HO_591001) hb)
               replace HO_591002 := Aside0.mk (Kd.R_below (ro HO_591002) hb)
               replace HO_604001 := Aside0.mk (Kd.R_below (ro HO_604001) hb)
               replace HO_604002 := Aside0.mk (Kd.R_below (ro HO_604002) hb)
               replace HO_609001 := Aside0.mk (Kd.R_below (ro HO_609001) hb)
               replace HO_623001 := Aside0.mk (Kd.R_below (ro HO_623001) hb)
               replace HO_623002 := Aside0.mk (Kd.R_below (ro HO_623002) hb)
               have BK681 := Aside0.mk hbox
               have GW681 := bz hg
               have GE681 := bz hg
               have NB557_681 := nl BK557 hg
               have NB681_557 := ng BK557 hg
               replace BK557 := b_ BK557 hb
               have NB558_681 := nl BK558 hg
               have NB681_558 := ng BK558 hg
               replace BK558 := b_ BK558 hb
               have NB590_681 := nl BK590 hg
               have NB681_590 := ng BK590 hg
               replace BK590 := b_ BK590 hb
               have NB603_681 := nl BK603 hg
               have NB681_603 := ng BK603 hg
               replace BK603 := b_ BK603 hb
               have NB608_681 := nl BK608 hg
               have NB681_608 := ng BK608 hg
               replace BK608 := b_ BK608 hb
               have NB622_681 := nl BK622 hg
               have NB681_622 := ng BK622 hg
               replace BK622 := b_ BK622 hb
               replace HB := hs hb
               clear hb hbox hg
               refine hK.out _ _ ⟨cx BK557, cx BK558⟩ (fun hHeld => ?_)
               clear hK K
               refine nm ?_
               refine on_ 1 (some 96) (bl 11 263) (fun K hK => ?_)
               refine gq Tryd.func10 (laws_toWarp.calls _ _ A0_1 c0_1 _ A0_2 c0_2 _ _ _ _ _ _ _ _ _ _ _ _ _ _ _ (cb HR0_1) HC0_1.out (cb HR0_2) HC0_2.out A177.out) ?_
               rintro e w183 ⟨v654, v657, rfl, ho0, ho1, hb⟩
               refine ⟨_, rfl, ?_⟩
               have HO655 := Aside0.mk (Kd.R_lower (Kd.R_new' (Kd.R_new' (Kd.R_new' (Kd.R_new' (Kd.R_new' (Kd.R_new' (Kd.R_new' ho0 (Kd.R_lt (ro HO_591001))) (Kd.R_lt (ro HO_591002))) (Kd.R_lt (ro HO_604001))) (Kd.R_lt (ro HO_604002))) (Kd.R_lt (ro HO_609001))) (Kd.R_lt (ro HO_623001))) (Kd.R_lt (ro HO_623002))) (below_size bw))
               have HO658 := Aside0.mk (Kd.R_lower (Kd.R_new' (Kd.R_new' (Kd.R_new' (Kd.R_new' (Kd.R_new' (Kd.R_new' (Kd.R_new' ho1 (Kd.R_lt (ro HO_591001))) (Kd.R_lt (ro HO_591002))) (Kd.R_lt (ro HO_604001))) (Kd.R_lt (ro HO_604002))) (Kd.R_lt (ro HO_609001))) (Kd.R_lt (ro HO_623001))) (Kd.R_lt (ro HO_623002))) (below_size bw))
               replace HO_591001 := Aside0.mk (Kd.R_mono (Kd.R_told (Kd.R_told (Kd.R_old (ro HO_591001) hb) (Kd.R_base ho0)) (Kd.R_base ho1)) (fun _ h_ => h_.1))
               replace HO_591002 := Aside0.mk (Kd.R_mono (Kd.R_told (Kd.R_told (Kd.R_old (ro HO_591002) hb) (Kd.R_base ho0)) (Kd.R_base ho1)) (fun _ h_ => h_.1))
               replace HO_604001 := Aside0.mk (Kd.R_mono (Kd.R_told (Kd.R_told (Kd.R_old (ro HO_604001) hb) (Kd.R_base ho0)) (Kd.R_base ho1)) (fun _ h_ => h_.1))
               replace HO_604002 := Aside0.mk (Kd.R_mono (Kd.R_told (Kd.R_told (Kd.R_old (ro HO_604002) hb) (Kd.R_base ho0)) (Kd.R_base ho1)) (fun _ h_ => h_.1))
               replace HO_609001 := Aside0.mk (Kd.R_mono (Kd.R_told (Kd.R_told (Kd.R_old (ro HO_609001) hb) (Kd.R_base ho0)) (Kd.R_base ho1)) (fun _ h_ => h_.1))
               replace HO_623001 := Aside0.mk (Kd.R_mono (Kd.R_told (Kd.R_told (Kd.R_old (ro HO_623001) hb) (Kd.R_base ho0)) (Kd.R_base ho1)) (fun _ h_ => h_.1))
               replace HO_623002 := Aside0.mk (Kd.R_mono (Kd.R_told (Kd.R_told (Kd.R_old (ro HO_623002) hb) (Kd.R_base ho0)) (Kd.R_base ho1)) (fun _ h_ => h_.1))
               replace BK557 := b_ BK557 hb
               replace BK558 := b_ BK558 hb
               replace BK590 := b_ BK590 hb
               replace BK603 := b_ BK603 hb
               replace BK608 := b_ BK608 hb
               replace BK622 := b_ BK622 hb
               replace BK681 := b_ BK681 hb
               replace HB := hs hb
               (try clear hb)
               (try clear hb2)
               (try clear hk)
               (try clear hi)
               (try clear ho0)
               (try clear ho1)
               refine hK.out _ _ ⟨cx BK557, cx BK558⟩ (fun hHeld => ?_)
               clear hK K
               refine nm ?_
               refine on_ 3 (some 98) (bl 11 271) (fun K hK => ?_)
               refine gq Tryd.func17 (laws_toReq.calls _ _ A1_1 c1_1 _ _ _ _ (cb HR1_1) HC1_1.out A178.out) ?_
               rintro e w184 ⟨v666, rfl, ho0, hb⟩
               refine ⟨_, rfl, ?_⟩
               have HO667 := Aside0.mk (Kd.R_lower (Kd.R_new' (Kd.R_new' (Kd.R_new' (Kd.R_new' (Kd.R_new' (Kd.R_new' (Kd.R_new' (Kd.R_new' (Kd.R_new' ho0 (Kd.R_lt (ro HO_591001))) (Kd.R_lt (ro HO_591002))) (Kd.R_lt (ro HO_604001))) (Kd.R_lt (ro HO_604002))) (Kd.R_lt (ro HO_609001))) (Kd.R_lt (ro HO_623001))) (Kd.R_lt (ro HO_623002))) (Kd.R_lt (ro HO655))) (Kd.R_lt (ro HO658))) (below_size bw))
               replace HO_591001 := Aside0.mk (Kd.R_elder' (ro HO_591001) (Kd.R_base ho0) hb)
               replace HO_591002 := Aside0.mk (Kd.R_elder' (ro HO_591002) (Kd.R_base ho0) hb)
               replace HO_604001 := Aside0.mk (Kd.R_elder' (ro HO_604001) (Kd.R_base ho0) hb)
               replace HO_604002 := Aside0.mk (Kd.R_elder' (ro HO_604002) (Kd.R_base ho0) hb)
               replace HO_609001 := Aside0.mk (Kd.R_elder' (ro HO_609001) (Kd.R_base ho0) hb)
               replace HO_623001 := Aside0.mk (Kd.R_elder' (ro HO_623001) (Kd.R_base ho0) hb)
               replace HO_623002 := Aside0.mk (Kd.R_elder' (ro HO_623002) (Kd.R_base ho0) hb)
               replace HO655 := Aside0.mk (Kd.R_elder' (ro HO655) (Kd.R_base ho0) hb)
               replace HO658 := Aside0.mk (Kd.R_elder' (ro HO658) (Kd.R_base ho0) hb)
               replace BK557 := b_ BK557 hb
               replace BK558 := b_ BK558 hb
               replace BK590 := b_ BK590 hb
               replace BK603 := b_ BK603 hb
               replace BK608 := b_ BK608 hb
               replace BK622 := b_ BK622 hb
               replace BK681 := b_ BK681 hb
               replace HB := hs hb
               (try clear hb)
               (try clear hb2)
               (try clear hk)
               (try clear hi)
               (try clear ho0)
               obtain ⟨Ao185, co185, eo185⟩ := Kd.R_slice HO655.out
               (first | subst eo185 | (injection eo185 with f1_ f2_ f3_; have f4_ := f1_.symm; have f5_ := f3_.symm; clear f1_ f2_ f3_; subst f4_; subst f5_))
               obtain ⟨Ao186, co186, eo186⟩ := Kd.R_slice HO658.out
               (first | subst eo186 | (injection eo186 with f1_ f2_ f3_; have f4_ := f1_.symm; have f5_ := f3_.symm; clear f1_ f2_ f3_; subst f4_; subst f5_))
               obtain ⟨Ao187, co187, eo187⟩ := Kd.R_slice HO667.out
               (first | subst eo187 | (injection eo187 with f1_ f2_ f3_; have f4_ := f1_.symm; have f5_ := f3_.symm; clear f1_ f2_ f3_; subst f4_; subst f5_))
               refine hK.out _ _ ⟨cx BK557, cx BK558⟩ (fun hHeld => ?_)
               clear hK K
               refine nm ?_
               refine on_ 4 (some 99) (bl 11 287) (fun K hK => ?_)
               refine gq Tryd.func18 (impl_WarpSubmit.calls _ _ Ao185 co185 _ Ao186 co186 _ _ _ _ _ _ _ Ao187 co187 _ _ _ _ _ _ _ _ _ _ _ (cr HO655) ((Kd.R_reads' HO655.out).2.1) (cr HO658) ((Kd.R_reads' HO658.out).2.1) (cr HO667) ((Kd.R_reads' HO667.out).2.1) A179.out (hT.below bw)) ?_
               rintro e w188 ⟨v670, v673, rfl, ho0, ho1, hb⟩
               refine ⟨_, rfl, ?_⟩
               have HO671 := Aside0.mk (Kd.R_lower (Kd.R_new' (Kd.R_new' (Kd.R_new' (Kd.R_new' (Kd.R_new' (Kd.R_new' (Kd.R_new' (Kd.R_new' (Kd.R_new' (Kd.R_new' ho0 (Kd.R_lt (ro HO_591001))) (Kd.R_lt (ro HO_591002))) (Kd.R_lt (ro HO_604001))) (Kd.R_lt (ro HO_604002))) (Kd.R_lt (ro HO_609001))) (Kd.R_lt (ro HO_623001))) (Kd.R_lt (ro HO_623002))) (Kd.R_lt (ro HO655))) (Kd.R_lt (ro HO658))) (Kd.R_lt (ro HO667))) (below_size bw))
               have HO674 := Aside0.mk (Kd.R_lower (Kd.R_new' (Kd.R_new' (Kd.R_new' (Kd.R_new' (Kd.R_new' (Kd.R_new' (Kd.R_new' (Kd.R_new' (Kd.R_new' (Kd.R_new' ho1 (Kd.R_lt (ro HO_591001))) (Kd.R_lt (ro HO_591002))) (Kd.R_lt (ro HO_604001))) (Kd.R_lt (ro HO_604002))) (Kd.R_lt (ro HO_609001))) (Kd.R_lt (ro HO_623001))) (Kd.R_lt (ro HO_623002))) (Kd.R_lt (ro HO655))) (Kd.R_lt (ro HO658))) (Kd.R_lt (ro HO667))) (below_size bw))
               replace HO_591001 := Aside0.mk (Kd.R_mono (Kd.R_told (Kd.R_told (Kd.R_old (ro HO_591001) hb) (Kd.R_base ho0)) (Kd.R_base ho1)) (fun _ h_ => h_.1))
               replace HO_591002 := Aside0.mk (Kd.R_mono (Kd.R_told (Kd.R_told (Kd.R_old (ro HO_591002) hb) (Kd.R_base ho0)) (Kd.R_base ho1)) (fun _ h_ => h_.1))
               replace HO_604001 := Aside0.mk (Kd.R_mono (Kd.R_told (Kd.R_told (Kd.R_old (ro HO_604001) hb) (Kd.R_base ho0)) (Kd.R_base ho1)) (fun _ h_ => h_.1))
               replace HO_604002 := Aside0.mk (Kd.R_mono (Kd.R_told (Kd.R_told (Kd.R_old (ro HO_604002) hb) (Kd.R_base ho0)) (Kd.R_base ho1)) (fun _ h_ => h_.1))
               replace HO_609001 := Aside0.mk (Kd.R_mono (Kd.R_told (Kd.R_told (Kd.R_old (ro HO_609001) hb) (Kd.R_base ho0)) (Kd.R_base ho1)) (fun _ h_ => h_.1))
               replace HO_623001 := Aside0.mk (Kd.R_mono (Kd.R_told (Kd.R_told (Kd.R_old (ro HO_623001) hb) (Kd.R_base ho0)) (Kd.R_base ho1)) (fun _ h_ => h_.1))
               replace HO_623002 := Aside0.mk (Kd.R_mono (Kd.R_told (Kd.R_told (Kd.R_old (ro HO_623002) hb) (Kd.R_base ho0)) (Kd.R_base ho1)) (fun _ h_ => h_.1))
               replace HO655 := Aside0.mk (Kd.R_mono (Kd.R_told (Kd.R_told (Kd.R_old (ro HO655) hb) (Kd.R_base ho0)) (Kd.R_base ho1)) (fun _ h_ => h_.1))
               replace HO658 := Aside0.mk (Kd.R_mono (Kd.R_told (Kd.R_told (Kd.R_old (ro HO658) hb) (Kd.R_base ho0)) (Kd.R_base ho1)) (fun _ h_ => h_.1))
               replace HO667 := Aside0.mk (Kd.R_mono (Kd.R_told (Kd.R_told (Kd.R_old (ro HO667) hb) (Kd.R_base ho0)) (Kd.R_base ho1)) (fun _ h_ => h_.1))
               replace BK557 := b_ BK557 hb
               replace BK558 := b_ BK558 hb
               replace BK590 := b_ BK590 hb
               replace BK603 := b_ BK603 hb
               replace BK608 := b_ BK608 hb
               replace BK622 := b_ BK622 hb
               replace BK681 := b_ BK681 hb
               replace HB := hs hb
               (try clear hb)
               (try clear hb2)
               (try clear hk)
               (try clear hi)
               (try clear ho0)
               (try clear ho1)
               refine hK.out _ _ ⟨cx BK557, cx BK558⟩ (fun hHeld => ?_)
               clear hK K
               refine nm ?_
               refine pu 5 94 (bl 11 319) ?_
               refine pu 6 100 (bl 11 383) ?_
               refine pu 7 101 (bl 11 511) ?_
               exact norm_ (by simp only [putAll, Act.put, List.setIfInBounds_toArray, List.set_cons_zero, List.set_cons_succ]) (hCont (.slice Ao185 t653.length co185, .slice Ao186 t656.length co186, .slice Ao187 t665.length co187, v670, v673, gb681) _ ⟨hHeld, (by (with_reducible repeat (first | apply Kd.R_alloc | apply Kd.R_drewN | apply Kd.R_drew)); exact Kd.R_mono HO655.out (fun _ hk => ⟨hk.1.1.1.1.1.1.1.1.1.1, ⟨hk.1.1.2, ⟨hk.1.2, ⟨hk.2, ⟨hk.1.1.1.1.1.1.1.1.1.2, ⟨hk.1.1.1.1.1.1.1.1.2, ⟨hk.1.1.1.1.1.1.1.2, ⟨hk.1.1.1.1.1.1.2, ⟨hk.1.1.1.1.1.2, ⟨hk.1.1.1.1.2, hk.1.1.1.2⟩⟩⟩⟩⟩⟩⟩⟩⟩⟩)), (by (with_reducible repeat (first | apply Kd.R_alloc | apply Kd.R_drewN | apply Kd.R_drew)); exact Kd.R_mono HO658.out (fun _ hk => ⟨hk.1.1.1.1.1.1.1.1.1.1, ⟨hk.1.1.2, ⟨hk.1.2, ⟨hk.2, ⟨hk.1.1.1.1.1.1.1.1.1.2, ⟨hk.1.1.1.1.1.1.1.1.2, ⟨hk.1.1.1.1.1.1.1.2, ⟨hk.1.1.1.1.1.1.2, ⟨hk.1.1.1.1.1.2, ⟨hk.1.1.1.1.2, hk.1.1.1.2⟩⟩⟩⟩⟩⟩⟩⟩⟩⟩)), (by (with_reducible repeat (first | apply Kd.R_alloc | apply Kd.R_drewN | apply Kd.R_drew)); exact Kd.R_mono HO667.out (fun _ hk => ⟨hk.1.1.1.2, ⟨hk.1.1.2, ⟨hk.1.2, ⟨hk.2, ⟨hk.1.1.1.1.1.1.1.1.1.1.2, ⟨hk.1.1.1.1.1.1.1.1.1.2, ⟨hk.1.1.1.1.1.1.1.1.2, ⟨hk.1.1.1.1.1.1.1.2, ⟨hk.1.1.1.1.1.1.2, ⟨hk.1.1.1.1.1.2, hk.1.1.1.1.2⟩⟩⟩⟩⟩⟩⟩⟩⟩⟩)), (by (with_reducible repeat (first | apply Kd.R_alloc | apply Kd.R_drewN | apply Kd.R_drew)); exact Kd.R_mono HO671.out (fun _ hk => ⟨hk.1.1.2, ⟨hk.1.2, ⟨hk.2, ⟨hk.1.1.1.1.1.1.1.1.1.1, ⟨hk.1.1.1.1.1.1.1.1.1.2, ⟨hk.1.1.1.1.1.1.1.1.2, ⟨hk.1.1.1.1.1.1.1.2, ⟨hk.1.1.1.1.1.1.2, ⟨hk.1.1.1.1.1.2, ⟨hk.1.1.1.1.2, hk.1.1.1.2⟩⟩⟩⟩⟩⟩⟩⟩⟩⟩)), (by (with_reducible repeat (first | apply Kd.R_alloc | apply Kd.R_drewN | apply Kd.R_drew)); exact Kd.R_mono HO674.out (fun _ hk => ⟨hk.1.1.2, ⟨hk.1.2, ⟨hk.2, ⟨hk.1.1.1.1.1.1.1.1.1.1, ⟨hk.1.1.1.1.1.1.1.1.1.2, ⟨hk.1.1.1.1.1.1.1.1.2, ⟨hk.1.1.1.1.1.1.1.2, ⟨hk.1.1.1.1.1.1.2, ⟨hk.1.1.1.1.1.2, ⟨hk.1.1.1.1.2, hk.1.1.1.2⟩⟩⟩⟩⟩⟩⟩⟩⟩⟩)), (by (with_reducible repeat (first | apply Kd.R_alloc | apply Kd.R_drewN | apply Kd.R_drew)); exact Kd.R_mono HO_591001.out (fun _ hk => ⟨hk.1.1.1.1.2, ⟨hk.1.1.1.2, ⟨hk.1.1.2, ⟨hk.1.2, ⟨hk.2, ⟨hk.1.1.1.1.1.1, ⟨hk.1.1.1.1.1.2.1, ⟨hk.1.1.1.1.1.2.2.1, ⟨hk.1.1.1.1.1.2.2.2.1, ⟨hk.1.1.1.1.1.2.2.2.2.1, hk.1.1.1.1.1.2.2.2.2.2⟩⟩⟩⟩⟩⟩⟩⟩⟩⟩)), (by (with_reducible repeat (first | apply Kd.R_alloc | apply Kd.R_drewN | apply Kd.R_drew)); exact Kd.R_mono HO_591002.out (fun _ hk => ⟨hk.1.1.1.1.2, ⟨hk.1.1.1.2, ⟨hk.1.1.2, ⟨hk.1.2, ⟨hk.2, ⟨hk.1.1.1.1.1.1, ⟨hk.1.1.1.1.1.2.1, ⟨hk.1.1.1.1.1.2.2.1, ⟨hk.1.1.1.1.1.2.2.2.1, ⟨hk.1.1.1.1.1.2.2.2.2.1, hk.1.1.1.1.1.2.2.2.2.2⟩⟩⟩⟩⟩⟩⟩⟩⟩⟩)), (by (with_reducible repeat (first | apply Kd.R_alloc | apply Kd.R_drewN | apply Kd.R_drew)); exact Kd.R_mono HO_604001.out (fun _ hk => ⟨hk.1.1.1.1.2, ⟨hk.1.1.1.2, ⟨hk.1.1.2, ⟨hk.1.2, ⟨hk.2, ⟨hk.1.1.1.1.1.1, ⟨hk.1.1.1.1.1.2.1, ⟨hk.1.1.1.1.1.2.2.1, ⟨hk.1.1.1.1.1.2.2.2.1, ⟨hk.1.1.1.1.1.2.2.2.2.1, hk.1.1.1.1.1.2.2.2.2.2⟩⟩⟩⟩⟩⟩⟩⟩⟩⟩)), (by (with_reducible repeat (first | apply Kd.R_alloc | apply Kd.R_drewN | apply Kd.R_drew)); exact Kd.R_mono HO_604002.out (fun _ hk => ⟨hk.1.1.1.1.2, ⟨hk.1.1.1.2, ⟨hk.1.1.2, ⟨hk.1.2, ⟨hk.2, ⟨hk.1.1.1.1.1.1, ⟨hk.1.1.1.1.1.2.1, ⟨hk.1.1.1.1.1.2.2.1, ⟨hk.1.1.1.1.1.2.2.2.1, ⟨hk.1.1.1.1.1.2.2.2.2.1, hk.1.1.1.1.1.2.2.2.2.2⟩⟩⟩⟩⟩⟩⟩⟩⟩⟩)), (by (with_reducible repeat (first | apply Kd.R_alloc | apply Kd.R_drewN | apply Kd.R_drew)); exact Kd.R_mono HO_609001.out (fun _ hk => ⟨hk.1.1.1.1.2, ⟨hk.1.1.1.2, ⟨hk.1.1.2, ⟨hk.1.2, ⟨hk.2, ⟨hk.1.1.1.1.1.1, ⟨hk.1.1.1.1.1.2.1, ⟨hk.1.1.1.1.1.2.2.1, ⟨hk.1.1.1.1.1.2.2.2.1, ⟨hk.1.1.1.1.1.2.2.2.2.1, hk.1.1.1.1.1.2.2.2.2.2⟩⟩⟩⟩⟩⟩⟩⟩⟩⟩)), (by (with_reducible repeat (first | apply Kd.R_alloc | apply Kd.R_drewN | apply Kd.R_drew)); exact Kd.R_mono HO_623001.out (fun _ hk => ⟨hk.1.1.1.1.2, ⟨hk.1.1.1.2, ⟨hk.1.1.2, ⟨hk.1.2, ⟨hk.2, ⟨hk.1.1.1.1.1.1, ⟨hk.1.1.1.1.1.2.1, ⟨hk.1.1.1.1.1.2.2.1, ⟨hk.1.1.1.1.1.2.2.2.1, ⟨hk.1.1.1.1.1.2.2.2.2.1, hk.1.1.1.1.1.2.2.2.2.2⟩⟩⟩⟩⟩⟩⟩⟩⟩⟩)), (by (with_reducible repeat (first | apply Kd.R_alloc | apply Kd.R_drewN | apply Kd.R_drew)); exact Kd.R_mono HO_623002.out (fun _ hk => ⟨hk.1.1.1.1.2, ⟨hk.1.1.1.2, ⟨hk.1.1.2, ⟨hk.1.2, ⟨hk.2, ⟨hk.1.1.1.1.1.1, ⟨hk.1.1.1.1.1.2.1, ⟨hk.1.1.1.1.1.2.2.1, ⟨hk.1.1.1.1.1.2.2.2.1, ⟨hk.1.1.1.1.1.2.2.2.2.1, hk.1.1.1.1.1.2.2.2.2.2⟩⟩⟩⟩⟩⟩⟩⟩⟩⟩)), (bk BK557), (bk BK558), (bk BK590), (bk BK603), (bk BK608), (bk BK622), (bk BK681), GW681.out, GE681.out, NB557_681.out, NB681_557.out, NB558_681.out, NB681_558.out, NB590_681.out, NB681_590.out, NB603_681.out, NB681_603.out, NB608_681.out, NB681_608.out, NB622_681.out, NB681_622.out, bw⟩)
             rintro ⟨v654, v657, v666, v670, v673, gb681⟩ w189 ⟨hS_, h0_, h1_, h2_, h3_, h4_, h5_, h6_, h7_, h8_, h9_, h10_, h11_, h12_, h13_, h14_, h15_, h16_, h17_, h18_, h19_, h20_, h21_, h22_, h23_, h24_, h25_, h26_, h27_, h28_, h29_, h30_, h31_, h32_, h33_⟩
             have n0_ : Aside0 (Kd.R (Kd.int .i64) 3 w189 w.heap.size (fun k_ => some k_ ≠ (v657 : Value).ownBlock ∧ some k_ ≠ (v666 : Value).ownBlock ∧ some k_ ≠ (v670 : Value).ownBlock ∧ some k_ ≠ (v673 : Value).ownBlock ∧ some k_ ≠ (.slice Ao34 t578.length co34 : Value).ownBlock ∧ some k_ ≠ (.slice Ao36 t581.length co36 : Value).ownBlock ∧ some k_ ≠ (.slice Ao52 t643.length co52 : Value).ownBlock ∧ some k_ ≠ (.slice Ao53 t644.length co53 : Value).ownBlock ∧ some k_ ≠ (.slice Ao63 t646.length co63 : Value).ownBlock ∧ some k_ ≠ (.slice Ao73 t610.length co73 : Value).ownBlock ∧ some k_ ≠ (.slice Ao74 t613.length co74 : Value).ownBlock) v654 t653) := ⟨h0_⟩
             have n1_ : Aside0 (Kd.R (Kd.int .i64) 3 w189 w.heap.size (fun k_ => some k_ ≠ (v654 : Value).ownBlock ∧ some k_ ≠ (v666 : Value).ownBlock ∧ some k_ ≠ (v670 : Value).ownBlock ∧ some k_ ≠ (v673 : Value).ownBlock ∧ some k_ ≠ (.slice Ao34 t578.length co34 : Value).ownBlock ∧ some k_ ≠ (.slice Ao36 t581.length co36 : Value).ownBlock ∧ some k_ ≠ (.slice Ao52 t643.length co52 : Value).ownBlock ∧ some k_ ≠ (.slice Ao53 t644.length co53 : Value).ownBlock ∧ some k_ ≠ (.slice Ao63 t646.length co63 : Value).ownBlock ∧ some k_ ≠ (.slice Ao73 t610.length co73 : Value).ownBlock ∧ some k_ ≠ (.slice Ao74 t613.length co74 : Value).ownBlock) v657 t656) := ⟨h1_⟩
             have n2_ : Aside0 (Kd.R (Kd.int .i64) 3 w189 w.heap.size (fun k_ => some k_ ≠ (v654 : Value).ownBlock ∧ some k_ ≠ (v657 : Value).ownBlock ∧ some k_ ≠ (v670 : Value).ownBlock ∧ some k_ ≠ (v673 : Value).ownBlock ∧ some k_ ≠ (.slice Ao34 t578.length co34 : Value).ownBlock ∧ some k_ ≠ (.slice Ao36 t581.length co36 : Value).ownBlock ∧ some k_ ≠ (.slice Ao52 t643.length co52 : Value).ownBlock ∧ some k_ ≠ (.slice Ao53 t644.length co53 : Value).ownBlock ∧ some k_ ≠ (.slice Ao63 t646.length co63 : Value).ownBlock ∧ some k_ ≠ (.slice Ao73 t610.length co73 : Value).ownBlock ∧ some k_ ≠ (.slice Ao74 t613.length co74 : Value).ownBlock) v666 t665) := ⟨h2_⟩
             have n3_ : Aside0 (Kd.R (Kd.int .i64) 3 w189 w.heap.size (fun k_ => some k_ ≠ (v654 : Value).ownBlock ∧ some k_ ≠ (v657 : Value).ownBlock ∧ some k_ ≠ (v666 : Value).ownBlock ∧ some k_ ≠ (v673 : Value).ownBlock ∧ some k_ ≠ (.slice Ao34 t578.length co34 : Value).ownBlock ∧ some k_ ≠ (.slice Ao36 t581.length co36 : Value).ownBlock ∧ some k_ ≠ (.slice Ao52 t643.length co52 : Value).ownBlock ∧ some k_ ≠ (.slice Ao53 t644.length co53 : Value).ownBlock ∧ some k_ ≠ (.slice Ao63 t646.length co63 : Value).ownBlock ∧ some k_ ≠ (.slice Ao73 t610.length co73 : Value).ownBlock ∧ some k_ ≠ (.slice Ao74 t613.length co74 : Value).ownBlock) v670 t669) := ⟨h3_⟩
             have n4_ : Aside0 (Kd.R (Kd.int .i64) 3 w189 w.heap.size (fun k_ => some k_ ≠ (v654 : Value).ownBlock ∧ some k_ ≠ (v657 : Value).ownBlock ∧ some k_ ≠ (v666 : Value).ownBlock ∧ some k_ ≠ (v670 : Value).ownBlock ∧ some k_ ≠ (.slice Ao34 t578.length co34 : Value).ownBlock ∧ some k_ ≠ (.slice Ao36 t581.length co36 : Value).ownBlock ∧ some k_ ≠ (.slice Ao52 t643.length co52 : Value).ownBlock ∧ some k_ ≠ (.slice Ao53 t644.length co53 : Value).ownBlock ∧ some k_ ≠ (.slice Ao63 t646.length co63 : Value).ownBlock ∧ some k_ ≠ (.slice Ao73 t610.length co73 : Value).ownBlock ∧ some k_ ≠ (.slice Ao74 t613.length co74 : Value).ownBlock) v673 t672) := ⟨h4_⟩
             have n5_ : Aside0 (Kd.R (Kd.int .i64) 3 w189 w.heap.size (fun k_ => some k_ ≠ (v654 : Value).ownBlock ∧ some k_ ≠ (v657 : Value).ownBlock ∧ some k_ ≠ (v666 : Value).ownBlock ∧ some k_ ≠ (v670 : Value).ownBlock ∧ some k_ ≠ (v673 : Value).ownBlock ∧ some k_ ≠ (.slice Ao36 t581.length co36 : Value).ownBlock ∧ some k_ ≠ (.slice Ao52 t643.length co52 : Value).ownBlock ∧ some k_ ≠ (.slice Ao53 t644.length co53 : Value).ownBlock ∧ some k_ ≠ (.slice Ao63 t646.length co63 : Value).ownBlock ∧ some k_ ≠ (.slice Ao73 t610.length co73 : Value).ownBlock ∧ some k_ ≠ (.slice Ao74 t613.length co74 : Value).ownBlock) (.slice Ao34 t578.length co34) t578) := ⟨h5_⟩
             have n6_ : Aside0 (Kd.R (Kd.int .i64) 3 w189 w.heap.size (fun k_ => some k_ ≠ (v654 : Value).ownBlock ∧ some k_ ≠ (v657 : Value).ownBlock ∧ some k_ ≠ (v666 : Value).ownBlock ∧ some k_ ≠ (v670 : Value).ownBlock ∧ some k_ ≠ (v673 : Value).ownBlock ∧ some k_ ≠ (.slice Ao34 t578.length co34 : Value).ownBlock ∧ some k_ ≠ (.slice Ao52 t643.length co52 : Value).ownBlock ∧ some k_ ≠ (.slice Ao53 t644.length co53 : Value).ownBlock ∧ some k_ ≠ (.slice Ao63 t646.length co63 : Value).ownBlock ∧ some k_ ≠ (.slice Ao73 t610.length co73 : Value).ownBlock ∧ some k_ ≠ (.slice Ao74 t613.length co74 : Value).ownBlock) (.slice Ao36 t581.length co36) t581) := ⟨h6_⟩
             have n7_ : Aside0 (Kd.R (Kd.int .i64) 3 w189 w.heap.size (fun k_ => some k_ ≠ (v654 : Value).ownBlock ∧ some k_ ≠ (v657 : Value).ownBlock ∧ some k_ ≠ (v666 : Value).ownBlock ∧ some k_ ≠ (v670 : Value).ownBlock ∧ some k_ ≠ (v673 : Value).ownBlock ∧ some k_ ≠ (.slice Ao34 t578.length co34 : Value).ownBlock ∧ some k_ ≠ (.slice Ao36 t581.length co36 : Value).ownBlock ∧ some k_ ≠ (.slice Ao53 t644.length co53 : Value).ownBlock ∧ some k_ ≠ (.slice Ao63 t646.length co63 : Value).ownBlock ∧ some k_ ≠ (.slice Ao73 t610.length co73 : Value).ownBlock ∧ some k_ ≠ (.slice Ao74 t613.length co74 : Value).ownBlock) (.slice Ao52 t643.length co52) t643) := ⟨h7_⟩
             have n8_ : Aside0 (Kd.R (Kd.int .i64) 3 w189 w.heap.size (fun k_ => some k_ ≠ (v654 : Value).ownBlock ∧ some k_ ≠ (v657 : Value).ownBlock ∧ some k_ ≠ (v666 : Value).ownBlock ∧ some k_ ≠ (v670 : Value).ownBlock ∧ some k_ ≠ (v673 : Value).ownBlock ∧ some k_ ≠ (.slice Ao34 t578.length co34 : Value).ownBlock ∧ some k_ ≠ (.slice Ao36 t581.length co36 : Value).ownBlock ∧ some k_ ≠ (.slice Ao52 t643.length co52 : Value).ownBlock ∧ some k_ ≠ (.slice Ao63 t646.length co63 : Value).ownBlock ∧ some k_ ≠ (.slice Ao73 t610.length co73 : Value).ownBlock ∧ some k_ ≠ (.slice Ao74 t613.length co74 : Value).ownBlock) (.slice Ao53 t644.length co53) t644) := ⟨h8_⟩
             have n9_ : Aside0 (Kd.R (Kd.int .i64) 3 w189 w.heap.size (fun k_ => some k_ ≠ (v654 : Value).ownBlock ∧ some k_ ≠ (v657 : Value).ownBlock ∧ some k_ ≠ (v666 : Value).ownBlock ∧ some k_ ≠ (v670 : Value).ownBlock ∧ some k_ ≠ (v673 : Value).ownBlock ∧ some k_ ≠ (.slice Ao34 t578.length co34 : Value).ownBlock ∧ some k_ ≠ (.slice Ao36 t581.length co36 : Value).ownBlock ∧ some k_ ≠ (.slice Ao52 t643.length co52 : Value).ownBlock ∧ some k_ ≠ (.slice Ao53 t644.length co53 : Value).ownBlock ∧ some k_ ≠ (.slice Ao73 t610.length co73 : Value).ownBlock ∧ some k_ ≠ (.slice Ao74 t613.length co74 : Value).ownBlock) (.slice Ao63 t646.length co63) t646) := ⟨h9_⟩
             have n10_ : Aside0 (Kd.R (Kd.int .i64) 3 w189 w.heap.size (fun k_ => some k_ ≠ (v654 : Value).ownBlock ∧ some k_ ≠ (v657 : Value).ownBlock ∧ some k_ ≠ (v666 : Value).ownBlock ∧ some k_ ≠ (v670 : Value).ownBlock ∧ some k_ ≠ (v673 : Value).ownBlock ∧ some k_ ≠ (.slice Ao34 t578.length co34 : Value).ownBlock ∧ some k_ ≠ (.slice Ao36 t581.length co36 : Value).ownBlock ∧ some k_ ≠ (.slice Ao52 t643.length co52 : Value).ownBlock ∧ some k_ ≠ (.slice Ao53 t644.length co53 : Value).ownBlock ∧ some k_ ≠ (.slice Ao63 t646.length co63 : Value).ownBlock ∧ some k_ ≠ (.slice Ao74 t613.length co74 : Value).ownBlock) (.slice Ao73 t610.length co73) t649) := ⟨h10_⟩
             have n11_ : Aside0 (Kd.R (Kd.int .i64) 3 w189 w.heap.size (fun k_ => some k_ ≠ (v654 : Value).ownBlock ∧ some k_ ≠ (v657 : Value).ownBlock ∧ some k_ ≠ (v666 : Value).ownBlock ∧ some k_ ≠ (v670 : Value).ownBlock ∧ some k_ ≠ (v673 : Value).ownBlock ∧ some k_ ≠ (.slice Ao34 t578.length co34 : Value).ownBlock ∧ some k_ ≠ (.slice Ao36 t581.length co36 : Value).ownBlock ∧ some k_ ≠ (.slice Ao52 t643.length co52 : Value).ownBlock ∧ some k_ ≠ (.slice Ao53 t644.length co53 : Value).ownBlock ∧ some k_ ≠ (.slice Ao63 t646.length co63 : Value).ownBlock ∧ some k_ ≠ (.slice Ao73 t610.length co73 : Value).ownBlock) (.slice Ao74 t613.length co74) t650) := ⟨h11_⟩
             have n12_ : Aside0 (w189.heap[gb557]? = some (.cells #[.int .i64 a0_0, .slice A0_1 l0_1.length c0_1, .slice A0_2 l0_2.length c0_2, .int .u32 a0_3, .int .i64 a0_4, .int .i64 a0_5, .int .i64 a0_6, .int .u32 a0_7] 25 (0, 0))) := ⟨h12_⟩
             have n13_ : Aside0 (w189.heap[gb558]? = some (.cells #[.int .i64 a1_0, .slice A1_1 l1_1.length c1_1] 35 (0, 0))) := ⟨h13_⟩
             have n14_ : Aside0 (w189.heap[gb590]? = some (.cells #[.int .i64 t577, .slice Ao34 t578.length co34, .slice Ao36 t581.length co36, .int .u32 t584, .int .i64 t585, .int .i64 t586, .int .i64 t587, .int .u32 t588] 28 (0, 0))) := ⟨h14_⟩
             have n15_ : Aside0 (w189.heap[gb603]? = some (.cells #[.int .i64 t591, .slice Ao52 t643.length co52, .slice Ao53 t644.length co53, .int .u32 t598, .int .i64 t599, .int .i64 t600, .int .i64 t601, .int .u32 t602] 28 (0, 0))) := ⟨h15_⟩
             have n16_ : Aside0 (w189.heap[gb608]? = some (.cells #[.int .i64 t604, .slice Ao63 t646.length co63] 39 (0, 0))) := ⟨h16_⟩
             have n17_ : Aside0 (w189.heap[gb622]? = some (.cells #[.int .i64 t609, .slice Ao73 t610.length co73, .slice Ao74 t613.length co74, .int .u32 t616, .int .i64 t617, .int .i64 t618, .int .i64 t619, .int .u32 t620] 28 (0, 0))) := ⟨h17_⟩
             have n18_ : Aside0 (w189.heap[gb681]? = some (.cells #[.int .i64 0, .slice none 0 0, .slice none 0 0, .int .u32 0, .int .i64 0, .int .i64 0, .int .i64 0, .int .u32 0] 28 (0, 0))) := ⟨h18_⟩
             have n19_ : Aside0 (w.heap.size ≤ gb681) := ⟨h19_⟩
             have n20_ : Aside0 (w.heap.size ≤ gb681) := ⟨h20_⟩
             have n21_ : Aside0 (gb557 ≠ gb681) := ⟨h21_⟩
             have n22_ : Aside0 (gb681 ≠ gb557) := ⟨h22_⟩
             have n23_ : Aside0 (gb558 ≠ gb681) := ⟨h23_⟩
             have n24_ : Aside0 (gb681 ≠ gb558) := ⟨h24_⟩
             have n25_ : Aside0 (gb590 ≠ gb681) := ⟨h25_⟩
             have n26_ : Aside0 (gb681 ≠ gb590) := ⟨h26_⟩
             have n27_ : Aside0 (gb603 ≠ gb681) := ⟨h27_⟩
             have n28_ : Aside0 (gb681 ≠ gb603) := ⟨h28_⟩
             have n29_ : Aside0 (gb608 ≠ gb681) := ⟨h29_⟩
             have n30_ : Aside0 (gb681 ≠ gb608) := ⟨h30_⟩
             have n31_ : Aside0 (gb622 ≠ gb681) := ⟨h31_⟩
             have n32_ : Aside0 (gb681 ≠ gb622) := ⟨h32_⟩
             have n33_ : Aside0 (Below w.heap.size w w189) := ⟨h33_⟩
             clear HO_591001
             clear HO_591002
             clear HO_604001
             clear HO_604002
             clear HO_609001
             clear HO_623001
             clear HO_623002
             clear BK557
             clear BK558
             clear BK590
             clear BK603
             clear BK608
             clear BK622
             clear HB
             clear h0_ h1_ h2_ h3_ h4_ h5_ h6_ h7_ h8_ h9_ h10_ h11_ h12_ h13_ h14_ h15_ h16_ h17_ h18_ h19_ h20_ h21_ h22_ h23_ h24_ h25_ h26_ h27_ h28_ h29_ h30_ h31_ h32_ h33_
             have HO655 := n0_
             have HO658 := n1_
             have HO667 := n2_
             have HO671 := n3_
             have HO674 := n4_
             have HO_591001 := n5_
             have HO_591002 := n6_
             have HO_604001 := n7_
             have HO_604002 := n8_
             have HO_609001 := n9_
             have HO_623001 := n10_
             have HO_623002 := n11_
             have BK557 := n12_
             have BK558 := n13_
             have BK590 := n14_
             have BK603 := n15_
             have BK608 := n16_
             have BK622 := n17_
             have BK681 := n18_
             have GW681 := n19_
             have GE681 := n20_
             have NB557_681 := n21_
             have NB681_557 := n22_
             have NB558_681 := n23_
             have NB681_558 := n24_
             have NB590_681 := n25_
             have NB681_590 := n26_
             have NB603_681 := n27_
             have NB681_603 := n28_
             have NB608_681 := n29_
             have NB681_608 := n30_
             have NB622_681 := n31_
             have NB681_622 := n32_
             have HB := n33_
             clear n0_ n1_ n2_ n3_ n4_ n5_ n6_ n7_ n8_ n9_ n10_ n11_ n12_ n13_ n14_ n15_ n16_ n17_ n18_ n19_ n20_ n21_ n22_ n23_ n24_ n25_ n26_ n27_ n28_ n29_ n30_ n31_ n32_ n33_
             have hHeld := hS_
             obtain ⟨Ao191, co191, eo191⟩ := Kd.R_slice HO671.out
             (first | subst eo191 | (injection eo191 with f1_ f2_ f3_; have f4_ := f1_.symm; have f5_ := f3_.symm; clear f1_ f2_ f3_; subst f4_; subst f5_))
             obtain ⟨Ao193, co193, eo193⟩ := Kd.R_slice HO674.out
             (first | subst eo193 | (injection eo193 with f1_ f2_ f3_; have f4_ := f1_.symm; have f5_ := f3_.symm; clear f1_ f2_ f3_; subst f4_; subst f5_))
             refine norm_ (a' := ?_) ?_ ?_
             rotate_left
             ·simp only [putAll, Act.put, List.setIfInBounds_toArray, List.set_cons_zero, List.set_cons_succ]
              rfl
             refine on_ 9 (none) (bl 11 1023) (fun K hK => ?_)
             have hs190 : w189.cell? ⟨gb681, 0, none⟩ = some (.int .i64 0) := (blk_cell BK681.out 0).trans rfl
             have hfs190 := blk_frozen BK681.out 0
             have hns190_0 := NB557_681.out
             have hns190_1 := NB558_681.out
             have hns190_2 := NB590_681.out
             have hns190_3 := NB603_681.out
             have hns190_4 := NB608_681.out
             have hns190_5 := NB622_681.out
             have hms190_0 := NB681_557.out
             have hms190_1 := NB681_558.out
             have hms190_2 := NB681_590.out
             have hms190_3 := NB681_603.out
             have hms190_4 := NB681_608.out
             have hms190_5 := NB681_622.out
             have hs192 : w189.cell? ⟨gb681, 1, none⟩ = some (.slice none 0 0) := (blk_cell BK681.out 1).trans rfl
             have hfs192 := blk_frozen BK681.out 1
             have hs194 : w189.cell? ⟨gb681, 2, none⟩ = some (.slice none 0 0) := (blk_cell BK681.out 2).trans rfl
             have hfs194 := blk_frozen BK681.out 2
             have hs195 : w189.cell? ⟨gb681, 3, none⟩ = some (.int .u32 0) := (blk_cell BK681.out 3).trans rfl
             have hfs195 := blk_frozen BK681.out 3
             have hs196 : w189.cell? ⟨gb681, 4, none⟩ = some (.int .i64 0) := (blk_cell BK681.out 4).trans rfl
             have hfs196 := blk_frozen BK681.out 4
             have hs197 : w189.cell? ⟨gb681, 5, none⟩ = some (.int .i64 0) := (blk_cell BK681.out 5).trans rfl
             have hfs197 := blk_frozen BK681.out 5
             have hs198 : w189.cell? ⟨gb681, 6, none⟩ = some (.int .i64 0) := (blk_cell BK681.out 6).trans rfl
             have hfs198 := blk_frozen BK681.out 6
             have hs199 : w189.cell? ⟨gb681, 7, none⟩ = some (.int .u32 0) := (blk_cell BK681.out 7).trans rfl
             have hfs199 := blk_frozen BK681.out 7
             refine skip_ (w1 := ?_) (by rfl) rfl ?_ ?_
             rotate_left
             ·go_simp
              rfl
             refine hK.out _ _ ⟨cf NB557_681 (hHeld.1), cf NB558_681 (hHeld.2)⟩ (fun hHeld => ?_)
             clear hK K
             refine pu 10 16 (bl 11 2047) ?_
             refine dn ?_ _
             obtain ⟨wz, hwz⟩ : ∃ z_ : World, ((((((((w189.setCell ⟨gb681, 0, none⟩ (.int .i64 t668)).setCell ⟨gb681, 1, none⟩ (.slice Ao191 t669.length co191)).setCell ⟨gb681, 2, none⟩ (.slice Ao193 t672.length co193)).setCell ⟨gb681, 3, none⟩ (.int .u32 t675)).setCell ⟨gb681, 4, none⟩ (.int .i64 t676)).setCell ⟨gb681, 5, none⟩ (.int .i64 t677)).setCell ⟨gb681, 6, none⟩ (.int .i64 t678)).setCell ⟨gb681, 7, none⟩ (.int .u32 t679)) = z_ := ⟨_, rfl⟩
             replace HO671 := rz hwz HO671 BK681
             replace HO674 := rz hwz HO674 BK681
             replace HO_591001 := rz hwz HO_591001 BK681
             replace HO_591002 := rz hwz HO_591002 BK681
             replace HO_604001 := rz hwz HO_604001 BK681
             replace HO_604002 := rz hwz HO_604002 BK681
             replace HO_609001 := rz hwz HO_609001 BK681
             replace HO_623001 := rz hwz HO_623001 BK681
             replace HO_623002 := rz hwz HO_623002 BK681
             replace HO655 := rz hwz HO655 BK681
             replace HO658 := rz hwz HO658 BK681
             replace HO667 := rz hwz HO667 BK681
             replace BK557 := rb hwz BK557
             replace BK558 := rb hwz BK558
             replace BK590 := rb hwz BK590
             replace BK603 := rb hwz BK603
             replace BK608 := rb hwz BK608
             replace BK622 := rb hwz BK622
             replace BK681 := rp hwz BK681 #[.int .i64 t668, .slice Ao191 t669.length co191, .slice Ao193 t672.length co193, .int .u32 t675, .int .i64 t676, .int .i64 t677, .int .i64 t678, .int .u32 t679]
             replace HB := rh hwz
             rw [hwz]
             clear hwz
             go_upto_region 32 with (fail)
             go_cut [110] (fun v110 wc => ∃ (kq : Nat) (x110_179 : Bool), v110 = .bool x110_179 ∧ Aside0 (laws_FnExactWarpSubmit.j2 kq t648 x110_179 t609 t649 t650 t616 t617 t618 t619 t620 = some r) ∧ Aside0 (kq ≤ kj120) ∧ Aside0 (Kd.R (Kd.int .i64) 3 wc w.heap.size (fun k_ => some k_ ≠ ((.slice Ao36 t581.length co36) : Value).ownBlock ∧ some k_ ≠ ((.slice Ao52 t643.length co52) : Value).ownBlock ∧ some k_ ≠ ((.slice Ao53 t644.length co53) : Value).ownBlock ∧ some k_ ≠ ((.slice Ao63 t646.length co63) : Value).ownBlock ∧ some k_ ≠ ((.slice Ao73 t610.length co73) : Value).ownBlock ∧ some k_ ≠ ((.slice Ao74 t613.length co74) : Value).ownBlock ∧ some k_ ≠ ((.slice Ao191 t669.length co191) : Value).ownBlock ∧ some k_ ≠ ((.slice Ao193 t672.length co193) : Value).ownBlock) (.slice Ao34 t578.length co34) t578) ∧ Aside0 (Kd.R (Kd.int .i64) 3 wc w.heap.size (fun k_ => some k_ ≠ ((.slice Ao34 t578.length co34) : Value).ownBlock ∧ some k_ ≠ ((.slice Ao52 t643.length co52) : Value).ownBlock ∧ some k_ ≠ ((.slice Ao53 t644.length co53) : Value).ownBlock ∧ some k_ ≠ ((.slice Ao63 t646.length co63) : Value).ownBlock ∧ some k_ ≠ ((.slice Ao73 t610.length co73) : Value).ownBlock ∧ some k_ ≠ ((.slice Ao74 t613.length co74) : Value).ownBlock ∧ some k_ ≠ ((.slice Ao191 t669.length co191) : Value).ownBlock ∧ some k_ ≠ ((.slice Ao193 t672.length co193) : Value).ownBlock) (.slice Ao36 t581.length co36) t581) ∧ Aside0 (Kd.R (Kd.int .i64) 3 wc w.heap.size (fun k_ => some k_ ≠ ((.slice Ao34 t578.length co34) : Value).ownBlock ∧ some k_ ≠ ((.slice Ao36 t581.length co36) : Value).ownBlock ∧ some k_ ≠ ((.slice Ao53 t644.length co53) : Value).ownBlock ∧ some k_ ≠ ((.slice Ao63 t646.length co63) : Value).ownBlock ∧ some k_ ≠ ((.slice Ao73 t610.length co73) : Value).ownBlock ∧ some k_ ≠ ((.slice Ao74 t613.length co74) : Value).ownBlock ∧ some k_ ≠ ((.slice Ao191 t669.length co191) : Value).ownBlock ∧ some k_ ≠ ((.slice Ao193 t672.length co193) : Value).ownBlock) (.slice Ao52 t643.length co52) t643) ∧ Aside0 (Kd.R (Kd.int .i64) 3 wc w.heap.size (fun k_ => some k_ ≠ ((.slice Ao34 t578.length co34) : Value).ownBlock ∧ some k_ ≠ ((.slice Ao36 t581.length co36) : Value).ownBlock ∧ some k_ ≠ ((.slice Ao52 t643.length co52) : Value).ownBlock ∧ some k_ ≠ ((.slice Ao63 t646.length co63) : Value).ownBlock ∧ some k_ ≠ ((.slice Ao73 t610.length co73) : Value).ownBlock ∧ some k_ ≠ ((.slice Ao74 t613.length co74) : Value).ownBlock ∧ some k_ ≠ ((.slice Ao191 t669.length co191) : Value).ownBlock ∧ some k_ ≠ ((.slice Ao193 t672.length co193) : Value).ownBlock) (.slice Ao53 t644.length co53) t644) ∧ Aside0 (Kd.R (Kd.int .i64) 3 wc w.heap.size (fun k_ => some k_ ≠ ((.slice Ao34 t578.length co34) : Value).ownBlock ∧ some k_ ≠ ((.slice Ao36 t581.length co36) : Value).ownBlock ∧ some k_ ≠ ((.slice Ao52 t643.length co52) : Value).ownBlock ∧ some k_ ≠ ((.slice Ao53 t644.length co53) : Value).ownBlock ∧ some k_ ≠ ((.slice Ao73 t610.length co73) : Value).ownBlock ∧ some k_ ≠ ((.slice Ao74 t613.length co74) : Value).ownBlock ∧ some k_ ≠ ((.slice Ao191 t669.length co191) : Value).ownBlock ∧ some k_ ≠ ((.slice Ao193 t672.length co193) : Value).ownBlock) (.slice Ao63 t646.length co63) t646) ∧ Aside0 (Kd.R (Kd.int .i64) 3 wc w.heap.size (fun k_ => some k_ ≠ ((.slice Ao34 t578.length co34) : Value).ownBlock ∧ some k_ ≠ ((.slice Ao36 t581.length co36) : Value).ownBlock ∧ some k_ ≠ ((.slice Ao52 t643.length co52) : Value).ownBlock ∧ some k_ ≠ ((.slice Ao53 t644.length co53) : Value).ownBlock ∧ some k_ ≠ ((.slice Ao63 t646.length co63) : Value).ownBlock ∧ some k_ ≠ ((.slice Ao74 t613.length co74) : Value).ownBlock ∧ some k_ ≠ ((.slice Ao191 t669.length co191) : Value).ownBlock ∧ some k_ ≠ ((.slice Ao193 t672.length co193) : Value).ownBlock) (.slice Ao73 t610.length co73) t649) ∧ Aside0 (Kd.R (Kd.int .i64) 3 wc w.heap.size (fun k_ => some k_ ≠ ((.slice Ao34 t578.length co34) : Value).ownBlock ∧ some k_ ≠ ((.slice Ao36 t581.length co36) : Value).ownBlock ∧ some k_ ≠ ((.slice Ao52 t643.length co52) : Value).ownBlock ∧ some k_ ≠ ((.slice Ao53 t644.length co53) : Value).ownBlock ∧ some k_ ≠ ((.slice Ao63 t646.length co63) : Value).ownBlock ∧ some k_ ≠ ((.slice Ao73 t610.length co73) : Value).ownBlock ∧ some k_ ≠ ((.slice Ao191 t669.length co191) : Value).ownBlock ∧ some k_ ≠ ((.slice Ao193 t672.length co193) : Value).ownBlock) (.slice Ao74 t613.length co74) t650) ∧ Aside0 (Kd.R (Kd.int .i64) 3 wc w.heap.size (fun k_ => some k_ ≠ ((.slice Ao34 t578.length co34) : Value).ownBlock ∧ some k_ ≠ ((.slice Ao36 t581.length co36) : Value).ownBlock ∧ some k_ ≠ ((.slice Ao52 t643.length co52) : Value).ownBlock ∧ some k_ ≠ ((.slice Ao53 t644.length co53) : Value).ownBlock ∧ some k_ ≠ ((.slice Ao63 t646.length co63) : Value).ownBlock ∧ some k_ ≠ ((.slice Ao73 t610.length co73) : Value).ownBlock ∧ some k_ ≠ ((.slice Ao74 t613.length co74) : Value).ownBlock ∧ some k_ ≠ ((.slice Ao193 t672.length co193) : Value).ownBlock) (.slice Ao191 t669.length co191) t669) ∧ Aside0 (Kd.R (Kd.int .i64) 3 wc w.heap.size (fun k_ => some k_ ≠ ((.slice Ao34 t578.length co34) : Value).ownBlock ∧ some k_ ≠ ((.slice Ao36 t581.length co36) : Value).ownBlock ∧ some k_ ≠ ((.slice Ao52 t643.length co52) : Value).ownBlock ∧ some k_ ≠ ((.slice Ao53 t644.length co53) : Value).ownBlock ∧ some k_ ≠ ((.slice Ao63 t646.length co63) : Value).ownBlock ∧ some k_ ≠ ((.slice Ao73 t610.length co73) : Value).ownBlock ∧ some k_ ≠ ((.slice Ao74 t613.length co74) : Value).ownBlock ∧ some k_ ≠ ((.slice Ao191 t669.length co191) : Value).ownBlock) (.slice Ao193 t672.length co193) t672) ∧ Aside0 (wc.heap[gb557]? = some (.cells #[.int .i64 a0_0, (.slice A0_1 l0_1.length c0_1), (.slice A0_2 l0_2.length c0_2), .int .u32 a0_3, .int .i64 a0_4, .int .i64 a0_5, .int .i64 a0_6, .int .u32 a0_7] 25 (0, 0))) ∧ Aside0 (wc.heap[gb558]? = some (.cells #[.int .i64 a1_0, (.slice A1_1 l1_1.length c1_1)] 35 (0, 0))) ∧ Aside0 (wc.heap[gb590]? = some (.cells #[.int .i64 t577, (.slice Ao34 t578.length co34), (.slice Ao36 t581.length co36), .int .u32 t584, .int .i64 t585, .int .i64 t586, .int .i64 t587, .int .u32 t588] 28 (0, 0))) ∧ Aside0 (wc.heap[gb603]? = some (.cells #[.int .i64 t591, (.slice Ao52 t643.length co52), (.slice Ao53 t644.length co53), .int .u32 t598, .int .i64 t599, .int .i64 t600, .int .i64 t601, .int .u32 t602] 28 (0, 0))) ∧ Aside0 (wc.heap[gb608]? = some (.cells #[.int .i64 t604, (.slice Ao63 t646.length co63)] 39 (0, 0))) ∧ Aside0 (wc.heap[gb622]? = some (.cells #[.int .i64 t609, (.slice Ao73 t610.length co73), (.slice Ao74 t613.length co74), .int .u32 t616, .int .i64 t617, .int .i64 t618, .int .i64 t619, .int .u32 t620] 28 (0, 0))) ∧ Aside0 (wc.heap[gb681]? = some (.cells #[.int .i64 t668, (.slice Ao191 t669.length co191), (.slice Ao193 t672.length co193), .int .u32 t675, .int .i64 t676, .int .i64 t677, .int .i64 t678, .int .u32 t679] 28 (0, 0))) ∧ Aside0 (Below w.heap.size w wc))
             case first => as_aux_lemma =>
              have H := HC180.out
              clear HC180
              replace H := bn H
              obtain ⟨t682, A200, H⟩ := H
              try dsimp only at H
              replace H := ib H
              rcases H with ⟨rfl, H⟩ | ⟨rfl, H⟩
              ·(try simp only [Bool.not_true, Bool.not_false])
               have H' := Aside0.mk H
               clear H
               have hnb202 := NB681_557.out
               have hnc202 := NB557_681.out
               have hnb203 := NB681_558.out
               have hnc203 := NB558_681.out
               have hnb204 := NB681_590.out
               have hnc204 := NB590_681.out
               have hnb205 := NB681_603.out
               have hnc205 := NB603_681.out
               have hnb206 := NB681_608.out
               have hnc206 := NB608_681.out
               have hnb207 := NB681_622.out
               have hnc207 := NB622_681.out
               obtain ⟨z208_0, z208_1, z208_2, z208_3, z208_4, z208_5, z208_6, z208_7⟩ := ca8 BK681
               have hnb210 := NB590_558.out
               have hnc210 := NB558_590.out
               have hnb212 := NB590_608.out
               have hnc212 := NB608_590.out
               obtain ⟨z214_0, z214_1, z214_2, z214_3, z214_4, z214_5, z214_6, z214_7⟩ := ca8 BK590
               go_wp2_with (first | ((with_reducible refine gf 12 ?_); refine gl 12 Tryd.func12 (some 104) #[.agg #[.int .i64 t668, .slice Ao191 t669.length co191, .slice Ao193 t672.length co193, .int .u32 t675, .int .i64 t676, .int .i64 t677, .int .i64 t678, .int .u32 t679], .agg #[.int .i64 t577, .slice Ao34 t578.length co34, .slice Ao36 t581.length co36, .int .u32 t584, .int .i64 t585, .int .i64 t586, .int .i64 t587, .int .u32 t588]] ?_; (with_reducible refine (laws_eqWarp.calls _ _ _ _ _ _ _ _ _ _ _ _ _ _ _ _ _ _ _ _ _ _ _ _ _ _ _ ?side1 ?side2 ?side3 ?side4 ?side5 ?side6 ?side7 ?side8 A200.out).mono ?_); (case side1 => refine (Kd.R_reads' (e := 3) (base := w.heap.size) (ok := fun k_ => (some k_ ≠ (v654 : Value).ownBlock ∧ (some k_ ≠ (v657 : Value).ownBlock ∧ (some k_ ≠ (v666 : Value).ownBlock ∧ (some k_ ≠ (.slice Ao193 t672.length co193 : Value).ownBlock ∧ (some k_ ≠ (.slice Ao34 t578.length co34 : Value).ownBlock ∧ (some k_ ≠ (.slice Ao36 t581.length co36 : Value).ownBlock ∧ (some k_ ≠ (.slice Ao52 t643.length co52 : Value).ownBlock ∧ (some k_ ≠ (.slice Ao53 t644.length co53 : Value).ownBlock ∧ (some k_ ≠ (.slice Ao63 t646.length co63 : Value).ownBlock ∧ (some k_ ≠ (.slice Ao73 t610.length co73 : Value).ownBlock ∧ some k_ ≠ (.slice Ao74 t613.length co74 : Value).ownBlock))))))))))) (n := t669.length) (c := co191) ?_).2.2; exact (rx HO671 BK681)); (case side2 => exact (Kd.R_reads' HO671.out).2.1); (case side3 => refine (Kd.R_reads' (e := 3) (base := w.heap.size) (ok := fun k_ => (some k_ ≠ (v654 : Value).ownBlock ∧ (some k_ ≠ (v657 : Value).ownBlock ∧ (some k_ ≠ (v666 : Value).ownBlock ∧ (some k_ ≠ (.slice Ao191 t669.length co191 : Value).ownBlock ∧ (some k_ ≠ (.slice Ao34 t578.length co34 : Value).ownBlock ∧ (some k_ ≠ (.slice Ao36 t581.length co36 : Value).ownBlock ∧ (some k_ ≠ (.slice Ao52 t643.length co52 : Value).ownBlock ∧ (some k_ ≠ (.slice Ao53 t644.length co53 : Value).ownBlock ∧ (some k_ ≠ (.slice Ao63 t646.length co63 : Value).ownBlock ∧ (some k_ ≠ (.slice Ao73 t610.length co73 : Value).ownBlock ∧ some k_ ≠ (.slice Ao74 t613.length co74 : Value).ownBlock))))))))))) (n := t672.length) (c := co193) ?_).2.2; exact (rx HO674 BK681)); (case side4 => exact (Kd.R_reads' HO674.out).2.1); (case side5 => refine (Kd.R_reads' (e := 3) (base := w.heap.size) (ok := fun k_ => (some k_ ≠ (v654 : Value).ownBlock ∧ (some k_ ≠ (v657 : Value).ownBlock ∧ (some k_ ≠ (v666 : Value).ownBlock ∧ (some k_ ≠ (.slice Ao191 t669.length co191 : Value).ownBlock ∧ (some k_ ≠ (.slice Ao193 t672.length co193 : Value).ownBlock ∧ (some k_ ≠ (.slice Ao36 t581.length co36 : Value).ownBlock ∧ (some k_ ≠ (.slice Ao52 t643.length co52 : Value).ownBlock ∧ (some k_ ≠ (.slice Ao53 t644.length co53 : Value).ownBlock ∧ (some k_ ≠ (.slice Ao63 t646.length co63 : Value).ownBlock ∧ (some k_ ≠ (.slice Ao73 t610.length co73 : Value).ownBlock ∧ some k_ ≠ (.slice Ao74 t613.length co74 : Value).ownBlock))))))))))) (n := t578.length) (c := co34) ?_).2.2; exact (rx HO_591001 BK681)); (case side6 => exact (Kd.R_reads' HO_591001.out).2.1); (case side7 => refine (Kd.R_reads' (e := 3) (base := w.heap.size) (ok := fun k_ => (some k_ ≠ (v654 : Value).ownBlock ∧ (some k_ ≠ (v657 : Value).ownBlock ∧ (some k_ ≠ (v666 : Value).ownBlock ∧ (some k_ ≠ (.slice Ao191 t669.length co191 : Value).ownBlock ∧ (some k_ ≠ (.slice Ao193 t672.length co193 : Value).ownBlock ∧ (some k_ ≠ (.slice Ao34 t578.length co34 : Value).ownBlock ∧ (some k_ ≠ (.slice Ao52 t643.length co52 : Value).ownBlock ∧ (some k_ ≠ (.slice Ao53 t644.length co53 : Value).ownBlock ∧ (some k_ ≠ (.slice Ao63 t646.length co63 : Value).ownBlock ∧ (some k_ ≠ (.slice Ao73 t610.length co73 : Value).ownBlock ∧ some k_ ≠ (.slice Ao74 t613.length co74 : Value).ownBlock))))))))))) (n := t581.length) (c := co36) ?_).2.2; exact (rx HO_591002 BK681)); (case side8 => exact (Kd.R_reads' HO_591002.out).2.1); rintro e w215 ⟨rfl, hb⟩; refine ⟨_, rfl, ?_⟩; replace HO_591001 := Aside0.mk (Kd.R_below (rx HO_591001 BK681) hb); replace HO_591002 := Aside0.mk (Kd.R_below (rx HO_591002 BK681) hb); replace HO_604001 := Aside0.mk (Kd.R_below (rx HO_604001 BK681) hb); replace HO_604002 := Aside0.mk (Kd.R_below (rx HO_604002 BK681) hb); replace HO_609001 := Aside0.mk (Kd.R_below (rx HO_609001 BK681) hb); replace HO_623001 := Aside0.mk (Kd.R_below (rx HO_623001 BK681) hb); replace HO_623002 := Aside0.mk (Kd.R_below (rx HO_623002 BK681) hb); replace HO655 := Aside0.mk (Kd.R_below (rx HO655 BK681) hb); replace HO658 := Aside0.mk (Kd.R_below (rx HO658 BK681) hb); replace HO667 := Aside0.mk (Kd.R_below (rx HO667 BK681) hb); replace HO671 := Aside0.mk (Kd.R_below (rx HO671 BK681) hb); replace HO674 := Aside0.mk (Kd.R_below (rx HO674 BK681) hb); replace BK557 := b_ BK557 hb; replace BK558 := b_ BK558 hb; replace BK590 := b_ BK590 hb; replace BK603 := b_ BK603 hb; replace BK608 := b_ BK608 hb; replace BK622 := b_ BK622 hb; replace BK681 := bq BK681 #[.int .i64 t668, .slice Ao191 t669.length co191, .slice Ao193 t672.length co193, .int .u32 t675, .int .i64 t676, .int .i64 t677, .int .i64 t678, .int .u32 t679] hb; replace HB := hs hb; try clear hb))
               go_meet
               case rel => exact ⟨_, ((t680 != t589)), ev, H', ⟨by have := HJ22.out; have := HJ120.out; first | omega | exact Nat.le_refl _⟩, ⟨by (try simp only [hl604001_120]); (try simp only [hl604002_120]); (try simp only [hl609001_120]); (with_reducible repeat (first | apply Kd.R_alloc | apply Kd.R_drewN | apply Kd.R_drew)); exact Kd.R_mono HO_591001.out (fun _ hk => ⟨hk.2.2.2.2.2.1, ⟨hk.2.2.2.2.2.2.1, ⟨hk.2.2.2.2.2.2.2.1, ⟨hk.2.2.2.2.2.2.2.2.1, ⟨hk.2.2.2.2.2.2.2.2.2.1, ⟨hk.2.2.2.2.2.2.2.2.2.2, ⟨hk.2.2.2.1, hk.2.2.2.2.1⟩⟩⟩⟩⟩⟩⟩)⟩, ⟨by (try simp only [hl604001_120]); (try simp only [hl604002_120]); (try simp only [hl609001_120]); (with_reducible repeat (first | apply Kd.R_alloc | apply Kd.R_drewN | apply Kd.R_drew)); exact Kd.R_mono HO_591002.out (fun _ hk => ⟨hk.2.2.2.2.2.1, ⟨hk.2.2.2.2.2.2.1, ⟨hk.2.2.2.2.2.2.2.1, ⟨hk.2.2.2.2.2.2.2.2.1, ⟨hk.2.2.2.2.2.2.2.2.2.1, ⟨hk.2.2.2.2.2.2.2.2.2.2, ⟨hk.2.2.2.1, hk.2.2.2.2.1⟩⟩⟩⟩⟩⟩⟩)⟩, ⟨by (try simp only [hl604001_120]); (try simp only [hl604002_120]); (try simp only [hl609001_120]); (with_reducible repeat (first | apply Kd.R_alloc | apply Kd.R_drewN | apply Kd.R_drew)); exact Kd.R_mono HO_604001.out (fun _ hk => ⟨hk.2.2.2.2.2.1, ⟨hk.2.2.2.2.2.2.1, ⟨hk.2.2.2.2.2.2.2.1, ⟨hk.2.2.2.2.2.2.2.2.1, ⟨hk.2.2.2.2.2.2.2.2.2.1, ⟨hk.2.2.2.2.2.2.2.2.2.2, ⟨hk.2.2.2.1, hk.2.2.2.2.1⟩⟩⟩⟩⟩⟩⟩)⟩, ⟨by (try simp only [hl604001_120]); (try simp only [hl604002_120]); (try simp only [hl609001_120]); (with_reducible repeat (first | apply Kd.R_alloc | apply Kd.R_drewN | apply Kd.R_drew)); exact Kd.R_mono HO_604002.out (fun _ hk => ⟨hk.2.2.2.2.2.1, ⟨hk.2.2.2.2.2.2.1, ⟨hk.2.2.2.2.2.2.2.1, ⟨hk.2.2.2.2.2.2.2.2.1, ⟨hk.2.2.2.2.2.2.2.2.2.1, ⟨hk.2.2.2.2.2.2.2.2.2.2, ⟨hk.2.2.2.1, hk.2.2.2.2.1⟩⟩⟩⟩⟩⟩⟩)⟩, ⟨by (try simp only [hl604001_120]); (try simp only [hl604002_120]); (try simp only [hl609001_120]); (with_reducible repeat (first | apply Kd.R_alloc | apply Kd.R_drewN | apply Kd.R_drew)); exact Kd.R_mono HO_609001.out (fun _ hk => ⟨hk.2.2.2.2.2.1, ⟨hk.2.2.2.2.2.2.1, ⟨hk.2.2.2.2.2.2.2.1, ⟨hk.2.2.2.2.2.2.2.2.1, ⟨hk.2.2.2.2.2.2.2.2.2.1, ⟨hk.2.2.2.2.2.2.2.2.2.2, ⟨hk.2.2.2.1, hk.2.2.2.2.1⟩⟩⟩⟩⟩⟩⟩)⟩, ⟨by (try simp only [hl604001_120]); (try simp only [hl604002_120]); (try simp only [hl609001_120]); (with_reducible repeat (first | apply Kd.R_alloc | apply Kd.R_drewN | apply Kd.R_drew)); exact Kd.R_mono HO_623001.out (fun _ hk => ⟨hk.2.2.2.2.2.1, ⟨hk.2.2.2.2.2.2.1, ⟨hk.2.2.2.2.2.2.2.1, ⟨hk.2.2.2.2.2.2.2.2.1, ⟨hk.2.2.2.2.2.2.2.2.2.1, ⟨hk.2.2.2.2.2.2.2.2.2.2, ⟨hk.2.2.2.1, hk.2.2.2.2.1⟩⟩⟩⟩⟩⟩⟩)⟩, ⟨by (try simp only [hl604001_120]); (try simp only [hl604002_120]); (try simp only [hl609001_120]); (with_reducible repeat (first | apply Kd.R_alloc | apply Kd.R_drewN | apply Kd.R_drew)); exact Kd.R_mono HO_623002.out (fun _ hk => ⟨hk.2.2.2.2.2.1, ⟨hk.2.2.2.2.2.2.1, ⟨hk.2.2.2.2.2.2.2.1, ⟨hk.2.2.2.2.2.2.2.2.1, ⟨hk.2.2.2.2.2.2.2.2.2.1, ⟨hk.2.2.2.2.2.2.2.2.2.2, ⟨hk.2.2.2.1, hk.2.2.2.2.1⟩⟩⟩⟩⟩⟩⟩)⟩, ⟨by (try simp only [hl604001_120]); (try simp only [hl604002_120]); (try simp only [hl609001_120]); (with_reducible repeat (first | apply Kd.R_alloc | apply Kd.R_drewN | apply Kd.R_drew)); exact Kd.R_mono HO671.out (fun _ hk => ⟨hk.2.2.2.2.1, ⟨hk.2.2.2.2.2.1, ⟨hk.2.2.2.2.2.2.1, ⟨hk.2.2.2.2.2.2.2.1, ⟨hk.2.2.2.2.2.2.2.2.1, ⟨hk.2.2.2.2.2.2.2.2.2.1, ⟨hk.2.2.2.2.2.2.2.2.2.2, hk.2.2.2.1⟩⟩⟩⟩⟩⟩⟩)⟩, ⟨by (try simp only [hl604001_120]); (try simp only [hl604002_120]); (try simp only [hl609001_120]); (with_reducible repeat (first | apply Kd.R_alloc | apply Kd.R_drewN | apply Kd.R_drew)); exact Kd.R_mono HO674.out (fun _ hk => ⟨hk.2.2.2.2.1, ⟨hk.2.2.2.2.2.1, ⟨hk.2.2.2.2.2.2.1, ⟨hk.2.2.2.2.2.2.2.1, ⟨hk.2.2.2.2.2.2.2.2.1, ⟨hk.2.2.2.2.2.2.2.2.2.1, ⟨hk.2.2.2.2.2.2.2.2.2.2, hk.2.2.2.1⟩⟩⟩⟩⟩⟩⟩)⟩, ⟨by (try simp only [hl604001_120]); (try simp only [hl604002_120]); (try simp only [hl609001_120]); (with_reducible repeat (first | refine blk_drewN ?_ _ | refine blk_drew ?_ | refine blk_alloc ?_ _)); exact BK557.out⟩, ⟨by (try simp only [hl604001_120]); (try simp only [hl604002_120]); (try simp only [hl609001_120]); (with_reducible repeat (first | refine blk_drewN ?_ _ | refine blk_drew ?_ | refine blk_alloc ?_ _)); exact BK558.out⟩, ⟨by (try simp only [hl604001_120]); (try simp only [hl604002_120]); (try simp only [hl609001_120]); (with_reducible repeat (first | refine blk_drewN ?_ _ | refine blk_drew ?_ | refine blk_alloc ?_ _)); exact BK590.out⟩, ⟨by (try simp only [hl604001_120]); (try simp only [hl604002_120]); (try simp only [hl609001_120]); (with_reducible repeat (first | refine blk_drewN ?_ _ | refine blk_drew ?_ | refine blk_alloc ?_ _)); exact BK603.out⟩, ⟨by (try simp only [hl604001_120]); (try simp only [hl604002_120]); (try simp only [hl609001_120]); (with_reducible repeat (first | refine blk_drewN ?_ _ | refine blk_drew ?_ | refine blk_alloc ?_ _)); exact BK608.out⟩, ⟨by (try simp only [hl604001_120]); (try simp only [hl604002_120]); (try simp only [hl609001_120]); (with_reducible repeat (first | refine blk_drewN ?_ _ | refine blk_drew ?_ | refine blk_alloc ?_ _)); exact BK622.out⟩, ⟨by (try simp only [hl604001_120]); (try simp only [hl604002_120]); (try simp only [hl609001_120]); (with_reducible repeat (first | refine blk_drewN ?_ _ | refine blk_drew ?_ | refine blk_alloc ?_ _)); exact BK681.out⟩, ⟨bw⟩⟩
              ·(try simp only [Bool.not_true, Bool.not_false])
               have H' := Aside0.mk H
               clear H
               have hnb216 := NB681_557.out
               have hnc216 := NB557_681.out
               have hnb217 := NB681_558.out
               have hnc217 := NB558_681.out
               have hnb218 := NB681_590.out
               have hnc218 := NB590_681.out
               have hnb219 := NB681_603.out
               have hnc219 := NB603_681.out
               have hnb220 := NB681_608.out
               have hnc220 := NB608_681.out
               have hnb221 := NB681_622.out
               have hnc221 := NB622_681.out
               obtain ⟨z222_0, z222_1, z222_2, z222_3, z222_4, z222_5, z222_6, z222_7⟩ := ca8 BK681
               have hnb224 := NB590_558.out
               have hnc224 := NB558_590.out
               have hnb226 := NB590_608.out
               have hnc226 := NB608_590.out
               obtain ⟨z228_0, z228_1, z228_2, z228_3, z228_4, z228_5, z228_6, z228_7⟩ := ca8 BK590
               go_wp2_with (first | ((with_reducible refine gf 12 ?_); refine gl 12 Tryd.func12 (some 104) #[.agg #[.int .i64 t668, .slice Ao191 t669.length co191, .slice Ao193 t672.length co193, .int .u32 t675, .int .i64 t676, .int .i64 t677, .int .i64 t678, .int .u32 t679], .agg #[.int .i64 t577, .slice Ao34 t578.length co34, .slice Ao36 t581.length co36, .int .u32 t584, .int .i64 t585, .int .i64 t586, .int .i64 t587, .int .u32 t588]] ?_; (with_reducible refine (laws_eqWarp.calls _ _ _ _ _ _ _ _ _ _ _ _ _ _ _ _ _ _ _ _ _ _ _ _ _ _ _ ?side1 ?side2 ?side3 ?side4 ?side5 ?side6 ?side7 ?side8 A200.out).mono ?_); (case side1 => refine (Kd.R_reads' (e := 3) (base := w.heap.size) (ok := fun k_ => (some k_ ≠ (v654 : Value).ownBlock ∧ (some k_ ≠ (v657 : Value).ownBlock ∧ (some k_ ≠ (v666 : Value).ownBlock ∧ (some k_ ≠ (.slice Ao193 t672.length co193 : Value).ownBlock ∧ (some k_ ≠ (.slice Ao34 t578.length co34 : Value).ownBlock ∧ (some k_ ≠ (.slice Ao36 t581.length co36 : Value).ownBlock ∧ (some k_ ≠ (.slice Ao52 t643.length co52 : Value).ownBlock ∧ (some k_ ≠ (.slice Ao53 t644.length co53 : Value).ownBlock ∧ (some k_ ≠ (.slice Ao63 t646.length co63 : Value).ownBlock ∧ (some k_ ≠ (.slice Ao73 t610.length co73 : Value).ownBlock ∧ some k_ ≠ (.slice Ao74 t613.length co74 : Value).ownBlock))))))))))) (n := t669.length) (c := co191) ?_).2.2; exact (rx HO671 BK681)); (case side2 => exact (Kd.R_reads' HO671.out).2.1); (case side3 => refine (Kd.R_reads' (e := 3) (base := w.heap.size) (ok := fun k_ => (some k_ ≠ (v654 : Value).ownBlock ∧ (some k_ ≠ (v657 : Value).ownBlock ∧ (some k_ ≠ (v666 : Value).ownBlock ∧ (some k_ ≠ (.slice Ao191 t669.length co191 : Value).ownBlock ∧ (some k_ ≠ (.slice Ao34 t578.length co34 : Value).ownBlock ∧ (some k_ ≠ (.slice Ao36 t581.length co36 : Value).ownBlock ∧ (some k_ ≠ (.slice Ao52 t643.length co52 : Value).ownBlock ∧ (some k_ ≠ (.slice Ao53 t644.length co53 : Value).ownBlock ∧ (some k_ ≠ (.slice Ao63 t646.length co63 : Value).ownBlock ∧ (some k_ ≠ (.slice Ao73 t610.length co73 : Value).ownBlock ∧ some k_ ≠ (.slice Ao74 t613.length co74 : Value).ownBlock))))))))))) (n := t672.length) (c := co193) ?_).2.2; exact (rx HO674 BK681)); (case side4 => exact (Kd.R_reads' HO674.out).2.1); (case side5 => refine (Kd.R_reads' (e := 3) (base := w.heap.size) (ok := fun k_ => (some k_ ≠ (v654 : Value).ownBlock ∧ (some k_ ≠ (v657 : Value).ownBlock ∧ (some k_ ≠ (v666 : Value).ownBlock ∧ (some k_ ≠ (.slice Ao191 t669.length co191 : Value).ownBlock ∧ (some k_ ≠ (.slice Ao193 t672.length co193 : Value).ownBlock ∧ (some k_ ≠ (.slice Ao36 t581.length co36 : Value).ownBlock ∧ (some k_ ≠ (.slice Ao52 t643.length co52 : Value).ownBlock ∧ (some k_ ≠ (.slice Ao53 t644.length co53 : Value).ownBlock ∧ (some k_ ≠ (.slice Ao63 t646.length co63 : Value).ownBlock ∧ (some k_ ≠ (.slice Ao73 t610.length co73 : Value).ownBlock ∧ some k_ ≠ (.slice Ao74 t613.length co74 : Value).ownBlock))))))))))) (n := t578.length) (c := co34) ?_).2.2; exact (rx HO_591001 BK681)); (case side6 => exact (Kd.R_reads' HO_591001.out).2.1); (case side7 => refine (Kd.R_reads' (e := 3) (base := w.heap.size) (ok := fun k_ => (some k_ ≠ (v654 : Value).ownBlock ∧ (some k_ ≠ (v657 : Value).ownBlock ∧ (some k_ ≠ (v666 : Value).ownBlock ∧ (some k_ ≠ (.slice Ao191 t669.length co191 : Value).ownBlock ∧ (some k_ ≠ (.slice Ao193 t672.length co193 : Value).ownBlock ∧ (some k_ ≠ (.slice Ao34 t578.length co34 : Value).ownBlock ∧ (some k_ ≠ (.slice Ao52 t643.length co52 : Value).ownBlock ∧ (some k_ ≠ (.slice Ao53 t644.length co53 : Value).ownBlock ∧ (some k_ ≠ (.slice Ao63 t646.length co63 : Value).ownBlock ∧ (some k_ ≠ (.slice Ao73 t610.length co73 : Value).ownBlock ∧ some k_ ≠ (.slice Ao74 t613.length co74 : Value).ownBlock))))))))))) (n := t581.length) (c := co36) ?_).2.2; exact (rx HO_591002 BK681)); (case side8 => exact (Kd.R_reads' HO_591002.out).2.1); rintro e w229 ⟨rfl, hb⟩; refine ⟨_, rfl, ?_⟩; replace HO_591001 := Aside0.mk (Kd.R_below (rx HO_591001 BK681) hb); replace HO_591002 := Aside0.mk (Kd.R_below (rx HO_591002 BK681) hb); replace HO_604001 := Aside0.mk (Kd.R_below (rx HO_604001 BK681) hb); replace HO_604002 := Aside0.mk (Kd.R_below (rx HO_604002 BK681) hb); replace HO_609001 := Aside0.mk (Kd.R_below (rx HO_609001 BK681) hb); replace HO_623001 := Aside0.mk (Kd.R_below (rx HO_623001 BK681) hb); replace HO_623002 := Aside0.mk (Kd.R_below (rx HO_623002 BK681) hb); replace HO655 := Aside0.mk (Kd.R_below (rx HO655 BK681) hb); replace HO658 := Aside0.mk (Kd.R_below (rx HO658 BK681) hb); replace HO667 := Aside0.mk (Kd.R_below (rx HO667 BK681) hb); replace HO671 := Aside0.mk (Kd.R_below (rx HO671 BK681) hb); replace HO674 := Aside0.mk (Kd.R_below (rx HO674 BK681) hb); replace BK557 := b_ BK557 hb; replace BK558 := b_ BK558 hb; replace BK590 := b_ BK590 hb; replace BK603 := b_ BK603 hb; replace BK608 := b_ BK608 hb; replace BK622 := b_ BK622 hb; replace BK681 := bq BK681 #[.int .i64 t668, .slice Ao191 t669.length co191, .slice Ao193 t672.length co193, .int .u32 t675, .int .i64 t676, .int .i64 t677, .int .i64 t678, .int .u32 t679] hb; replace HB := hs hb; try clear hb))
               go_meet
               case rel => exact ⟨_, (true), ev, H', ⟨by have := HJ22.out; have := HJ120.out; first | omega | exact Nat.le_refl _⟩, ⟨by (try simp only [hl604001_120]); (try simp only [hl604002_120]); (try simp only [hl609001_120]); (with_reducible repeat (first | apply Kd.R_alloc | apply Kd.R_drewN | apply Kd.R_drew)); exact Kd.R_mono HO_591001.out (fun _ hk => ⟨hk.2.2.2.2.2.1, ⟨hk.2.2.2.2.2.2.1, ⟨hk.2.2.2.2.2.2.2.1, ⟨hk.2.2.2.2.2.2.2.2.1, ⟨hk.2.2.2.2.2.2.2.2.2.1, ⟨hk.2.2.2.2.2.2.2.2.2.2, ⟨hk.2.2.2.1, hk.2.2.2.2.1⟩⟩⟩⟩⟩⟩⟩)⟩, ⟨by (try simp only [hl604001_120]); (try simp only [hl604002_120]); (try simp only [hl609001_120]); (with_reducible repeat (first | apply Kd.R_alloc | apply Kd.R_drewN | apply Kd.R_drew)); exact Kd.R_mono HO_591002.out (fun _ hk => ⟨hk.2.2.2.2.2.1, ⟨hk.2.2.2.2.2.2.1, ⟨hk.2.2.2.2.2.2.2.1, ⟨hk.2.2.2.2.2.2.2.2.1, ⟨hk.2.2.2.2.2.2.2.2.2.1, ⟨hk.2.2.2.2.2.2.2.2.2.2, ⟨hk.2.2.2.1, hk.2.2.2.2.1⟩⟩⟩⟩⟩⟩⟩)⟩, ⟨by (try simp only [hl604001_120]); (try simp only [hl604002_120]); (try simp only [hl609001_120]); (with_reducible repeat (first | apply Kd.R_alloc | apply Kd.R_drewN | apply Kd.R_drew)); exact Kd.R_mono HO_604001.out (fun _ hk => ⟨hk.2.2.2.2.2.1, ⟨hk.2.2.2.2.2.2.1, ⟨hk.2.2.2.2.2.2.2.1, ⟨hk.2.2.2.2.2.2.2.2.1, ⟨hk.2.2.2.2.2.2.2.2.2.1, ⟨hk.2.2.2.2.2.2.2.2.2.2, ⟨hk.2.2.2.1, hk.2.2.2.2.1⟩⟩⟩⟩⟩⟩⟩)⟩, ⟨by (try simp only [hl604001_120]); (try simp only [hl604002_120]); (try simp only [hl609001_120]); (with_reducible repeat (first | apply Kd.R_alloc | apply Kd.R_drewN | apply Kd.R_drew)); exact Kd.R_mono HO_604002.out (fun _ hk => ⟨hk.2.2.2.2.2.1, ⟨hk.2.2.2.2.2.2.1, ⟨hk.2.2.2.2.2.2.2.1, ⟨hk.2.2.2.2.2.2.2.2.1, ⟨hk.2.2.2.2.2.2.2.2.2.1, ⟨hk.2.2.2.2.2.2.2.2.2.2, ⟨hk.2.2.2.1, hk.2.2.2.2.1⟩⟩⟩⟩⟩⟩⟩)⟩, ⟨by (try simp only [hl604001_120]); (try simp only [hl604002_120]); (try simp only [hl609001_120]); (with_reducible repeat (first | apply Kd.R_alloc | apply Kd.R_drewN | apply Kd.R_drew)); exact Kd.R_mono HO_609001.out (fun _ hk => ⟨hk.2.2.2.2.2.1, ⟨hk.2.2.2.2.2.2.1, ⟨hk.2.2.2.2.2.2.2.1, ⟨hk.2.2.2.2.2.2.2.2.1, ⟨hk.2.2.2.2.2.2.2.2.2.1, ⟨hk.2.2.2.2.2.2.2.2.2.2, ⟨hk.2.2.2.1, hk.2.2.2.2.1⟩⟩⟩⟩⟩⟩⟩)⟩, ⟨by (try simp only [hl604001_120]); (try simp only [hl604002_120]); (try simp only [hl609001_120]); (with_reducible repeat (first | apply Kd.R_alloc | apply Kd.R_drewN | apply Kd.R_drew)); exact Kd.R_mono HO_623001.out (fun _ hk => ⟨hk.2.2.2.2.2.1, ⟨hk.2.2.2.2.2.2.1, ⟨hk.2.2.2.2.2.2.2.1, ⟨hk.2.2.2.2.2.2.2.2.1, ⟨hk.2.2.2.2.2.2.2.2.2.1, ⟨hk.2.2.2.2.2.2.2.2.2.2, ⟨hk.2.2.2.1, hk.2.2.2.2.1⟩⟩⟩⟩⟩⟩⟩)⟩, ⟨by (try simp only [hl604001_120]); (try simp only [hl604002_120]); (try simp only [hl609001_120]); (with_reducible repeat (first | apply Kd.R_alloc | apply Kd.R_drewN | apply Kd.R_drew)); exact Kd.R_mono HO_623002.out (fun _ hk => ⟨hk.2.2.2.2.2.1, ⟨hk.2.2.2.2.2.2.1, ⟨hk.2.2.2.2.2.2.2.1, ⟨hk.2.2.2.2.2.2.2.2.1, ⟨hk.2.2.2.2.2.2.2.2.2.1, ⟨hk.2.2.2.2.2.2.2.2.2.2, ⟨hk.2.2.2.1, hk.2.2.2.2.1⟩⟩⟩⟩⟩⟩⟩)⟩, ⟨by (try simp only [hl604001_120]); (try simp only [hl604002_120]); (try simp only [hl609001_120]); (with_reducible repeat (first | apply Kd.R_alloc | apply Kd.R_drewN | apply Kd.R_drew)); exact Kd.R_mono HO671.out (fun _ hk => ⟨hk.2.2.2.2.1, ⟨hk.2.2.2.2.2.1, ⟨hk.2.2.2.2.2.2.1, ⟨hk.2.2.2.2.2.2.2.1, ⟨hk.2.2.2.2.2.2.2.2.1, ⟨hk.2.2.2.2.2.2.2.2.2.1, ⟨hk.2.2.2.2.2.2.2.2.2.2, hk.2.2.2.1⟩⟩⟩⟩⟩⟩⟩)⟩, ⟨by (try simp only [hl604001_120]); (try simp only [hl604002_120]); (try simp only [hl609001_120]); (with_reducible repeat (first | apply Kd.R_alloc | apply Kd.R_drewN | apply Kd.R_drew)); exact Kd.R_mono HO674.out (fun _ hk => ⟨hk.2.2.2.2.1, ⟨hk.2.2.2.2.2.1, ⟨hk.2.2.2.2.2.2.1, ⟨hk.2.2.2.2.2.2.2.1, ⟨hk.2.2.2.2.2.2.2.2.1, ⟨hk.2.2.2.2.2.2.2.2.2.1, ⟨hk.2.2.2.2.2.2.2.2.2.2, hk.2.2.2.1⟩⟩⟩⟩⟩⟩⟩)⟩, ⟨by (try simp only [hl604001_120]); (try simp only [hl604002_120]); (try simp only [hl609001_120]); (with_reducible repeat (first | refine blk_drewN ?_ _ | refine blk_drew ?_ | refine blk_alloc ?_ _)); exact BK557.out⟩, ⟨by (try simp only [hl604001_120]); (try simp only [hl604002_120]); (try simp only [hl609001_120]); (with_reducible repeat (first | refine blk_drewN ?_ _ | refine blk_drew ?_ | refine blk_alloc ?_ _)); exact BK558.out⟩, ⟨by (try simp only [hl604001_120]); (try simp only [hl604002_120]); (try simp only [hl609001_120]); (with_reducible repeat (first | refine blk_drewN ?_ _ | refine blk_drew ?_ | refine blk_alloc ?_ _)); exact BK590.out⟩, ⟨by (try simp only [hl604001_120]); (try simp only [hl604002_120]); (try simp only [hl609001_120]); (with_reducible repeat (first | refine blk_drewN ?_ _ | refine blk_drew ?_ | refine blk_alloc ?_ _)); exact BK603.out⟩, ⟨by (try simp only [hl604001_120]); (try simp only [hl604002_120]); (try simp only [hl609001_120]); (with_reducible repeat (first | refine blk_drewN ?_ _ | refine blk_drew ?_ | refine blk_alloc ?_ _)); exact BK608.out⟩, ⟨by (try simp only [hl604001_120]); (try simp only [hl604002_120]); (try simp only [hl609001_120]); (with_reducible repeat (first | refine blk_drewN ?_ _ | refine blk_drew ?_ | refine blk_alloc ?_ _)); exact BK622.out⟩, ⟨by (try simp only [hl604001_120]); (try simp only [hl604002_120]); (try simp only [hl609001_120]); (with_reducible repeat (first | refine blk_drewN ?_ _ | refine blk_drew ?_ | refine blk_alloc ?_ _)); exact BK681.out⟩, ⟨bw⟩⟩
             case rest => as_aux_lemma =>
              clear HC180
              obtain ⟨kq, x110_179, rfl, HA, HJ179, HO_591001, HO_591002, HO_604001, HO_604002, HO_609001, HO_623001, HO_623002, HO_682001, HO_682002, BK557, BK558, BK590, BK603, BK608, BK622, BK681, HB⟩ := hcut
              have hl623001_179 := (Kd.R_reads' HO_623001.out).1
              rw [hl623001_179] at HO_623001
              (try simp only [hl623001_179])
              (try simp only [hl623001_179] at BK557)
              (try simp only [hl623001_179] at BK558)
              (try simp only [hl623001_179] at BK590)
              (try simp only [hl623001_179] at BK603)
              (try simp only [hl623001_179] at BK608)
              (try simp only [hl623001_179] at BK622)
              (try simp only [hl623001_179] at BK681)
              (try simp only [hl623001_179] at HO_591001)
              (try simp only [hl623001_179] at HO_591002)
              (try simp only [hl623001_179] at HO_604001)
              (try simp only [hl623001_179] at HO_604002)
              (try simp only [hl623001_179] at HO_609001)
              (try simp only [hl623001_179] at HO_623002)
              (try simp only [hl623001_179] at HO_682001)
              (try simp only [hl623001_179] at HO_682002)
              have hl623002_179 := (Kd.R_reads' HO_623002.out).1
              rw [hl623002_179] at HO_623002
              (try simp only [hl623002_179])
              (try simp only [hl623002_179] at BK557)
              (try simp only [hl623002_179] at BK558)
              (try simp only [hl623002_179] at BK590)
              (try simp only [hl623002_179] at BK603)
              (try simp only [hl623002_179] at BK608)
              (try simp only [hl623002_179] at BK622)
              (try simp only [hl623002_179] at BK681)
              (try simp only [hl623002_179] at HO_591001)
              (try simp only [hl623002_179] at HO_591002)
              (try simp only [hl623002_179] at HO_604001)
              (try simp only [hl623002_179] at HO_604002)
              (try simp only [hl623002_179] at HO_609001)
              (try simp only [hl623002_179] at HO_623001)
              (try simp only [hl623002_179] at HO_682001)
              (try simp only [hl623002_179] at HO_682002)
              cases kq with
              | zero => exact absurd HA.out (by simp [laws_FnExactWarpSubmit.j2])
              | succ kj179 =>
               have H := HA.out
               clear HA
               simp only [laws_FnExactWarpSubmit.j2] at H
               replace H := ib H
               rcases H with ⟨rfl, H⟩ | ⟨rfl, H⟩
               ·obtain rfl := Option.some.inj H
                go_wp2
                go_ret
                exact ⟨rt, bw⟩
               ·replace H := bn H
                obtain ⟨t683, A231, H⟩ := H
                try dsimp only at H
                have HU232 := Aside0.mk H
                clear H
                have hnb238 := NB622_681.out
                have hnc238 := NB681_622.out
                obtain ⟨z239_0, z239_1, z239_2, z239_3, z239_4, z239_5, z239_6, z239_7⟩ := ca8 BK622
                go_upto_if 115 with (first | ((with_reducible refine gf 22 ?_); refine gc Tryd.func22 (some 113) (laws_heldWarp.calls _ _ Ao73 co73 _ Ao74 co74 _ _ _ _ _ _ _ _ _ (cr HO_623001) ((Kd.R_reads' HO_623001.out).2.1) (cr HO_623002) ((Kd.R_reads' HO_623002.out).2.1) A231.out) ?_; rintro e w240 ⟨rfl, hb⟩; refine ⟨_, rfl, ?_⟩; replace HO_591001 := Aside0.mk (Kd.R_below (ro HO_591001) hb); replace HO_591002 := Aside0.mk (Kd.R_below (ro HO_591002) hb); replace HO_604001 := Aside0.mk (Kd.R_below (ro HO_604001) hb); replace HO_604002 := Aside0.mk (Kd.R_below (ro HO_604002) hb); replace HO_609001 := Aside0.mk (Kd.R_below (ro HO_609001) hb); replace HO_623001 := Aside0.mk (Kd.R_below (ro HO_623001) hb); replace HO_623002 := Aside0.mk (Kd.R_below (ro HO_623002) hb); replace HO_682001 := Aside0.mk (Kd.R_below (ro HO_682001) hb); replace HO_682002 := Aside0.mk (Kd.R_below (ro HO_682002) hb); replace BK557 := b_ BK557 hb; replace BK558 := b_ BK558 hb; replace BK590 := b_ BK590 hb; replace BK603 := b_ BK603 hb; replace BK608 := b_ BK608 hb; replace BK622 := b_ BK622 hb; replace BK681 := b_ BK681 hb; replace HB := hs hb; try clear hb))
                (try refine ap ?_)
                have H := HU232.out
                clear HU232
                replace H := ilt H
                rcases H with ⟨c241b0, H⟩ | ⟨c241b0, H⟩
                ·(first | rw [c241b0] | (simp only [i64_w, i32_w]; rw [c241b0]) | (simp only [c241b2, Bool.not_true, Bool.not_false]) | (simp only [c241b1, Bool.not_true, Bool.not_false]) | skip)
                 obtain rfl := Option.some.inj H
                 go_wp2
                 go_ret
                 exact ⟨rt, bw⟩
                ·(first | rw [c241b0] | (simp only [i64_w, i32_w]; rw [c241b0]) | (simp only [c241b2, Bool.not_true, Bool.not_false]) | (simp only [c241b1, Bool.not_true, Bool.not_false]) | skip)
                 replace H := ieq H
                 rcases H with ⟨c242b0, c242b1, H⟩ | ⟨c242, c242b0, c242b1, H⟩
                 ·obtain rfl := Option.some.inj H
                  go_wp2
                  go_ret
                  exact ⟨rt, bw⟩
                 ·obtain rfl := Option.some.inj H
                  go_wp2
                  go_ret
                  exact ⟨rt, bw⟩
            ·obtain rfl := Option.some.inj H
             go_wp2
             go_ret
             exact ⟨rt, bw⟩
       ·(try simp only [Bool.not_true, Bool.not_false])
        obtain rfl := Option.some.inj H
        go_wp2
        go_ret
        exact ⟨rt, bw⟩
      ·(try simp only [Bool.not_true, Bool.not_false])
       obtain rfl := Option.some.inj H
       go_wp2
       go_ret
       exact ⟨rt, bw⟩

/-- THE ONE PURE STATEMENT of laws_FnExactWarpSubmit: yours. -/
def laws_FnExactWarpSubmit.Pure : Prop := ∀ (a0_0 : Int) (l0_1 : List Int) (l0_2 : List Int) (a0_3 : Int) (a0_4 : Int) (a0_5 : Int) (a0_6 : Int) (a0_7 : Int) (a1_0 : Int) (l1_1 : List Int), (Lit.int .i64 a0_0).wf = true → (l0_1.length ≤ 9223372036854775807 ∧ ∀ x_ ∈ l0_1, (Lit.int .i64 x_).wf = true) → (l0_2.length ≤ 9223372036854775807 ∧ ∀ x_ ∈ l0_2, (Lit.int .i64 x_).wf = true) → (Lit.int .u32 a0_3).wf = true → (Lit.int .i64 a0_4).wf = true → (Lit.int .i64 a0_5).wf = true → (Lit.int .i64 a0_6).wf = true → (Lit.int .u32 a0_7).wf = true → (Lit.int .i64 a1_0).wf = true → (l1_1.length ≤ 9223372036854775807 ∧ ∀ x_ ∈ l1_1, (Lit.int .i64 x_).wf = true) → ∃ k, laws_FnExactWarpSubmit.f k a0_0 l0_1 l0_2 a0_3 a0_4 a0_5 a0_6 a0_7 a1_0 l1_1 = some true

end Go.Proofs.YtfhcnnkeokjfpaaDoor.PS1
