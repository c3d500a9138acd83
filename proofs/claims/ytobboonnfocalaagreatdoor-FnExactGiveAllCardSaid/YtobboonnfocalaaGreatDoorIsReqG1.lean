/- The program's test of a request: eight values, each within its kind's bounds. Conditions: none. -/
import Derived.Test.YtobboonnfocalaaGreatDoorPG1x3
import Derived.Test.YtobboonnfocalaaGreatDoorSlIntG1
set_option linter.unusedVariables false
set_option linter.unusedSimpArgs false
namespace Go.Proofs.YtobboonnfocalaaGreatDoor.PG1
open Go.RowKit Go.Proofs.YtobboonnfocalaaGreatDoorW.PrintWords Go.Proofs.YtobboonnfocalaaGreatDoorW.PrintLast Go.Proofs.YtobboonnfocalaaGreatDoorW.PrintMore Go.Proofs.YtobboonnfocalaaGreatDoor.Sl

/-- A request is valid. -/
def reqOk (k : Int) (l : List Int) : Bool := decide (l.length = 8) && (decide (k = 1) && l.all (fun n => decide (0 ≤ n ∧ n ≤ 256)) || decide (k = 2) && l.all (fun n => decide (-1 ≤ n ∧ n ≤ 4095)))
theorem within_any (n a b : Int) (w : World) : Calls Tryz.prog 21 #[.int .i64 n, .int .i64 a, .int .i64 b] w fun e w' => e = .returned (.bool (decide (a ≤ n ∧ n ≤ b))) ∧ Drawn0 w w' := by
  refine impl_within.calls n a b _ w ?_
  unfold impl_within.f
  by_cases h : n ≥ a
  · rw [if_pos h]; congr 1; rw [decide_eq_decide]; omega
  · rw [if_neg h]; congr 1; symm; rw [decide_eq_false_iff_not]; omega
theorem isReq1 (n : Int) (w : World) : Calls Tryz.prog 90 #[.int .i64 n] w fun e w' => e = .returned (.bool (!decide (0 ≤ n ∧ n ≤ 256))) ∧ Below w.heap.size w w' := by
  have hw := within_any n 0 256
  generalize decide (0 ≤ n ∧ n ≤ 256) = b at hw ⊢
  go_enter Tryz.func90, Tryz.ntmps90
  go_wp2_with (go_at_call 21; refine (hw _).mono ?_; rintro e w' ⟨rfl, ⟨nd, rfl⟩⟩)
  go_ret
  exact ⟨rfl, pw_below_drewN (Below.refl _ _) _⟩
theorem isReq2 (n : Int) (w : World) : Calls Tryz.prog 91 #[.int .i64 n] w fun e w' => e = .returned (.bool (!decide (-1 ≤ n ∧ n ≤ 4095))) ∧ Below w.heap.size w w' := by
  have hw := within_any n (-1) 4095
  generalize decide (-1 ≤ n ∧ n ≤ 4095) = b at hw ⊢
  go_enter Tryz.func91, Tryz.ntmps91
  go_wp2_with (go_at_call 21; refine (hw _).mono ?_; rintro e w' ⟨rfl, ⟨nd, rfl⟩⟩)
  go_ret
  exact ⟨rfl, pw_below_drewN (Below.refl _ _) _⟩

theorem below_trans {w w1 w2 : World} (h : Below w.heap.size w w1) (k : Below w1.heap.size w1 w2) : Below w.heap.size w w2 := below_then h h.size k
theorem any_not (l : List Int) (p : Int → Bool) : (!l.any fun n => !p n) = l.all p := by
  induction l with
  | nil => rfl
  | cons x r ih => simp only [List.any_cons, List.all_cons, Bool.not_or, Bool.not_not, ih]

/-! ### impl_isReq: function 73 -/
def impl_isReq.f (a0_0 : Int) (l0_1 : List Int) : Option Bool := some (reqOk a0_0 l0_1)
set_option maxHeartbeats 4000000 in
theorem impl_isReq.calls (a0_0 : Int) (A0_1 : Option Addr) (c0_1 : Nat) (l0_1 : List Int) (r : Bool) (w : World) (hr0_1 : Kd.C (Kd.int .i64) w A0_1 l0_1.length l0_1) (hc0_1 : l0_1.length ≤ c0_1) (h : impl_isReq.f a0_0 l0_1 = some r) :
    Calls Tryz.prog 73 #[.agg #[.int .i64 a0_0, .slice A0_1 l0_1.length c0_1]] w fun e w' => e = .returned (.bool r) ∧ Below w.heap.size w w' := by
  obtain rfl := Option.some.inj h
  clear h
  have e1 : ∀ args w, (callFunc 90 args).run Tryz.prog w = .ok (.enter 90 args) w := enters_of Tryz.func90 (by kernel_rfl) rfl
  have e2 : ∀ args w, (callFunc 91 args).run Tryz.prog w = .ok (.enter 91 args) w := enters_of Tryz.func91 (by kernel_rfl) rfl
  have C1 : ∀ W, Below w.heap.size w W → Calls Tryz.prog 89 #[.slice A0_1 l0_1.length c0_1, .func (.func 90) #[] #[]] W fun e w' => e = .returned (.bool (l0_1.any fun n => !decide (0 ≤ n ∧ n ≤ 256))) ∧ Below W.heap.size W w' :=
    fun W hW => ContainsFunc_int _ #[] _ e1 A0_1 c0_1 l0_1 W (Kd.C_below hr0_1 hW) hc0_1 (fun x _ W' _ => isReq1 x W')
  have C2 : ∀ W, Below w.heap.size w W → Calls Tryz.prog 89 #[.slice A0_1 l0_1.length c0_1, .func (.func 91) #[] #[]] W fun e w' => e = .returned (.bool (l0_1.any fun n => !decide (-1 ≤ n ∧ n ≤ 4095))) ∧ Below W.heap.size W w' :=
    fun W hW => ContainsFunc_int _ #[] _ e2 A0_1 c0_1 l0_1 W (Kd.C_below hr0_1 hW) hc0_1 (fun x _ W' _ => isReq2 x W')
  have n1 := any_not l0_1 (fun n => decide (0 ≤ n ∧ n ≤ 256))
  have n2 := any_not l0_1 (fun n => decide (-1 ≤ n ∧ n ≤ 4095))
  unfold reqOk
  rw [← n1, ← n2]
  generalize (l0_1.any fun n => !decide (0 ≤ n ∧ n ≤ 256)) = b1 at C1 ⊢
  generalize (l0_1.any fun n => !decide (-1 ≤ n ∧ n ≤ 4095)) = b2 at C2 ⊢
  have hu := Tryz.underlying31
  have hB : Below w.heap.size w (w.alloc (.cells #[.int .i64 a0_0, .slice A0_1 l0_1.length c0_1] 31)) := (Below.refl _ _).alloc (Nat.le_refl _) _
  clear n1 n2 hr0_1 hc0_1
  by_cases c1 : l0_1.length = 8
  · have c1b : ((l0_1.length : Int) != 8) = false := by rw [c1]; rfl
    by_cases c2 : a0_0 = 1
    · have c2b : (a0_0 == 1) = true := by rw [c2]; rfl
      rw [decide_eq_true c1, decide_eq_true c2, decide_eq_false (show ¬ (a0_0 = 2) by omega)]
      clear c1 c2
      go_enter Tryz.func73, Tryz.ntmps73
      go_wp2_with (go_at_call 89; refine (C1 _ (by first | exact hB | exact pw_below_drewN hB _ | exact below_drew hB)).mono ?_; rintro e w' ⟨rfl, hb'⟩)
      go_ret
      exact ⟨by simp, below_trans hB hb'⟩
    · have c2b : (a0_0 == 1) = false := beq_eq_false_iff_ne.mpr c2
      by_cases c3 : a0_0 = 2
      · have c3b : (a0_0 == 2) = true := by rw [c3]; rfl
        rw [decide_eq_true c1, decide_eq_false c2, decide_eq_true c3]
        clear c1 c2 c3
        go_enter Tryz.func73, Tryz.ntmps73
        go_wp2_with (go_at_call 89; refine (C2 _ (by first | exact hB | exact pw_below_drewN hB _ | exact below_drew hB)).mono ?_; rintro e w' ⟨rfl, hb'⟩)
        go_ret
        exact ⟨by simp, below_trans hB hb'⟩
      · have c3b : (a0_0 == 2) = false := beq_eq_false_iff_ne.mpr c3
        rw [decide_eq_true c1, decide_eq_false c2, decide_eq_false c3]
        clear c1 c2 c3 C1 C2
        go_enter Tryz.func73, Tryz.ntmps73
        go_wp2
        go_ret
        exact ⟨by simp, hB⟩
  · have c1b : ((l0_1.length : Int) != 8) = true := by rw [bne_iff_ne]; omega
    rw [decide_eq_false c1]
    clear c1 C1 C2
    go_enter Tryz.func73, Tryz.ntmps73
    go_wp2
    go_ret
    exact ⟨by simp, hB⟩
end Go.Proofs.YtobboonnfocalaaGreatDoor.PG1
