/- The program's test of a memory: at most 16 words, each of them a control word. Conditions: none. -/
import Derived.Test.YtobboonnfocalaaGreatDoorPG1x3
import Derived.Test.YtobboonnfocalaaGreatDoorSlU32G1
set_option linter.unusedVariables false
set_option linter.unusedSimpArgs false
namespace Go.Proofs.YtobboonnfocalaaGreatDoor.PG1
open Go.RowKit Go.Proofs.YtobboonnfocalaaGreatDoorW.PrintWords Go.Proofs.YtobboonnfocalaaGreatDoorW.PrintLast Go.Proofs.YtobboonnfocalaaGreatDoorW.PrintMore Go.Proofs.YtobboonnfocalaaGreatDoor.Sl

theorem perPage_tells (a : Int) : ∃ r, impl_PerPage.f a = some r ∧ 0 ≤ r := by
  unfold impl_PerPage.f impl_isClass.f impl_within.f
  by_cases h1 : a ≥ 0
  · by_cases h2 : a ≤ 4
    · refine ⟨shr .i64 16 a, by simp [h1, h2, show 0 ≤ a by omega], ?_⟩
      unfold shr
      exact Int.ediv_nonneg (by omega) (Int.pow_nonneg (by omega))
    · exact ⟨0, by simp [h1, h2], by omega⟩
  · exact ⟨0, by simp [h1], by omega⟩
theorem isCtl_tells (a b c d : Int) : ∃ r, impl_isCtl.f 2 a b c d = some r := by
  have key : ∀ q, ∃ r, impl_isCtl.j0 2 a q a b c d = some r := by
    intro q
    obtain ⟨t, ht, h0⟩ := perPage_tells b
    simp only [impl_isCtl.j0, impl_isClass.f, impl_within.f, ht, Option.bind_some]
    rw [if_pos h0]
    (repeat' split) <;> first | exact ⟨_, rfl⟩ | (simp only [Option.bind_some]; (repeat' split) <;> exact ⟨_, rfl⟩)
  unfold impl_isCtl.f
  split
  · exact key _
  · exact key _
theorem ctlRead_tells (x : Int) : ∃ r1 r2 r3 r4 r5, impl_CtlRead.f 2 x = some (r1, r2, r3, r4, r5) := by
  unfold impl_CtlRead.f
  obtain ⟨r, hr⟩ := isCtl_tells (wrap64 (Go.bits .and .u32 (x / 1048576) 15)) (wrap64 (Go.bits .and .u32 (x / 65536) 15)) (Go.bits .and .u32 x 65535) (wrap64 (x / 16777216))
  rw [hr, Option.bind_some]
  cases r
  · rw [if_neg (by simp)]; exact ⟨_, _, _, _, _, rfl⟩
  · rw [if_pos rfl]; exact ⟨_, _, _, _, _, rfl⟩
def lastOf (o : Option (Int × Int × Int × Int × Bool)) : Bool := o.elim false (fun r => r.2.2.2.2)
theorem lastOf_some {o : Option (Int × Int × Int × Int × Bool)} {r1 r2 r3 r4 : Int} {r5 : Bool} (h : o = some (r1, r2, r3, r4, r5)) : lastOf o = r5 := by
  subst h
  rfl
/-- Is the word a control word, by the program's CtlRead? -/
def isCtlWord (x : Int) : Bool := lastOf (impl_CtlRead.f 2 x)
theorem isCtlWord_spec (x : Int) : ∃ r1 r2 r3 r4, impl_CtlRead.f 2 x = some (r1, r2, r3, r4, isCtlWord x) := by
  obtain ⟨r1, r2, r3, r4, b, h⟩ := ctlRead_tells x
  have e : isCtlWord x = b := lastOf_some h
  exact ⟨r1, r2, r3, r4, by rw [e]; exact h⟩
theorem isHeap1_ (k : Nat) (x r1 r2 r3 r4 : Int) (r5 : Bool) (h : impl_CtlRead.f k x = some (r1, r2, r3, r4, r5)) (w : World) : Calls Tryz.prog 70 #[.int .u32 x] w fun e w' => e = .returned (.bool (!r5)) ∧ Below w.heap.size w w' := by
  have hc := fun W => impl_CtlRead.calls k x r1 r2 r3 r4 r5 W h
  clear h
  have hu := Tryz.underlying75
  go_enter Tryz.func70, Tryz.ntmps70
  go_wp2_with (go_at_call 47; refine (hc _).mono ?_; rintro e w' ⟨rfl, hb⟩)
  go_ret
  exact ⟨rfl, hb.alloc hb.size _⟩
theorem isHeap1 (x : Int) (w : World) : Calls Tryz.prog 70 #[.int .u32 x] w fun e w' => e = .returned (.bool (!isCtlWord x)) ∧ Below w.heap.size w w' := by
  obtain ⟨r1, r2, r3, r4, h⟩ := isCtlWord_spec x
  exact isHeap1_ _ x r1 r2 r3 r4 _ h w
theorem below_trans' {w w1 w2 : World} (h : Below w.heap.size w w1) (k : Below w1.heap.size w1 w2) : Below w.heap.size w w2 := below_then h h.size k
theorem any_not' (l : List Int) (p : Int → Bool) : (!l.any fun n => !p n) = l.all p := by
  induction l with
  | nil => rfl
  | cons x r ih => simp only [List.any_cons, List.all_cons, Bool.not_or, Bool.not_not, ih]
def heapOk (l : List Int) : Bool := decide (l.length ≤ 16) && l.all isCtlWord

/-! ### impl_isHeap: function 41 -/
def impl_isHeap.f (l0_0 : List Int) : Option Bool := some (heapOk l0_0)
set_option maxHeartbeats 4000000 in
theorem impl_isHeap.calls (A0_0 : Option Addr) (c0_0 : Nat) (l0_0 : List Int) (r : Bool) (w : World) (hr0_0 : Kd.C (Kd.int .u32) w A0_0 l0_0.length l0_0) (hc0_0 : l0_0.length ≤ c0_0) (h : impl_isHeap.f l0_0 = some r) :
    Calls Tryz.prog 41 #[.agg #[.slice A0_0 l0_0.length c0_0]] w fun e w' => e = .returned (.bool r) ∧ Below w.heap.size w w' := by
  obtain rfl := Option.some.inj h
  clear h
  have e1 : ∀ args w, (callFunc 70 args).run Tryz.prog w = .ok (.enter 70 args) w := enters_of Tryz.func70 (by kernel_rfl) rfl
  have C1 : ∀ W, Below w.heap.size w W → Calls Tryz.prog 69 #[.slice A0_0 l0_0.length c0_0, .func (.func 70) #[] #[]] W fun e w' => e = .returned (.bool (l0_0.any fun n => !isCtlWord n)) ∧ Below W.heap.size W w' :=
    fun W hW => ContainsFunc_u32 _ #[] _ e1 A0_0 c0_0 l0_0 W (Kd.C_below hr0_0 hW) hc0_0 (fun x _ W' _ => isHeap1 x W')
  have n1 := any_not' l0_0 isCtlWord
  unfold heapOk
  rw [← n1]
  generalize (l0_0.any fun n => !isCtlWord n) = b1 at C1 ⊢
  have hu := Tryz.underlying34
  have hB : Below w.heap.size w (w.alloc (.cells #[.slice A0_0 l0_0.length c0_0] 34)) := (Below.refl _ _).alloc (Nat.le_refl _) _
  have hn : l0_0.length ≤ 9223372036854775807 := hr0_0.2.1
  clear n1 hr0_0 hc0_0
  by_cases c1 : l0_0.length ≤ 16
  · have c1b : decide ((l0_0.length : Int) ≤ 16) = true := decide_eq_true (by omega)
    have c1c : decide (l0_0.length ≤ 16) = true := decide_eq_true c1
    rw [c1c]
    clear c1
    go_enter Tryz.func41, Tryz.ntmps41
    go_wp2_with (go_at_call 69; refine (C1 _ (by first | exact hB | exact pw_below_drewN hB _ | exact below_drew hB)).mono ?_; rintro e w' ⟨rfl, hb'⟩)
    go_ret
    exact ⟨by simp, below_trans' hB hb'⟩
  · have c1b : decide ((l0_0.length : Int) ≤ 16) = false := decide_eq_false (by omega)
    have c1c : decide (l0_0.length ≤ 16) = false := decide_eq_false c1
    rw [c1c]
    clear c1 C1
    go_enter Tryz.func41, Tryz.ntmps41
    go_wp2
    go_ret
    exact ⟨by simp, hB⟩
end Go.Proofs.YtobboonnfocalaaGreatDoor.PG1
