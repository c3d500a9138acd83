/- Is a machine quiet: valid, and each of its warps idle. Conditions: none. -/
import Derived.Test.YtfhcnnkeokjfpaaDoorOwnersM1

set_option linter.unusedVariables false
set_option linter.unusedSimpArgs false
namespace Go.Proofs.YtfhcnnkeokjfpaaDoor.PM1
open Go.RowKit Go.Proofs.YtfhcnnkeokjfpaaDoor.Sl Go.Proofs.YtfhcnnkeokjfpaaDoorW.PrintWords Go.Proofs.YtfhcnnkeokjfpaaDoorW.PrintLast Go.Proofs.YtfhcnnkeokjfpaaDoorW.PrintMore

/-! ### impl_Quiet: function 29 -/
def impl_Quiet.f (l0_0 : List Int) (l0_1 : List S28) : Option Bool := (impl_owners.f l0_0 l0_1).bind fun r => some (r.2 && !(l0_1.any fun x => x.f0 != 0))
set_option maxHeartbeats 4000000 in
theorem busy_pred (warps : List S28) (w : World) : PredW Tryd.prog 63 #[] (fun x => x.f0 != 0) warps w := by
  intro x hx W hW A1 c1 A2 c2 h1 hC1 h2 hC2
  show Calls _ _ _ _ (fun e w' => e = .returned (.bool (x.f0 != 0)) ∧ Below W.heap.size W w')
  change Calls Tryd.prog _ #[.agg #[.int .i64 x.f0, .slice A1 x.f1.length c1, .slice A2 x.f2.length c2, .int .u32 x.f3, .int .i64 x.f4, .int .i64 x.f5, .int .i64 x.f6, .int .u32 x.f7]] W _
  have hu := Tryd.underlying28
  clear hC1 hC2 hx h1 h2
  generalize x.f1.length = n1
  generalize x.f2.length = n2
  have hB1 : Below W.heap.size W (W.alloc (.cells #[.int .i64 x.f0, .slice A1 n1 c1, .slice A2 n2 c2, .int .u32 x.f3, .int .i64 x.f4, .int .i64 x.f5, .int .i64 x.f6, .int .u32 x.f7] 28)) := (Below.refl _ _).alloc (Nat.le_refl _) _
  go_enter Tryd.func63, Tryd.ntmps63
  go_wp2
  go_ret
  exact ⟨rfl, hB1⟩
set_option maxHeartbeats 4000000 in
theorem impl_Quiet.calls (A0_0 : Option Addr) (c0_0 : Nat) (l0_0 : List Int) (A0_1 : Option Addr) (c0_1 : Nat) (l0_1 : List S28) (r : Bool) (w : World) (hr0_0 : Kd.C (Kd.int .u32) w A0_0 l0_0.length l0_0) (hc0_0 : l0_0.length ≤ c0_0) (hr0_1 : Kd.C k28 w A0_1 l0_1.length l0_1) (hc0_1 : l0_1.length ≤ c0_1) (h : impl_Quiet.f l0_0 l0_1 = some r) (hT : GT w) :
    Calls Tryd.prog 29 #[.agg #[.slice A0_0 l0_0.length c0_0, .slice A0_1 l0_1.length c0_1]] w fun e w' => e = .returned (.bool r) ∧ Below w.heap.size w w' := by
  obtain ⟨⟨o1, o2⟩, ho, h2⟩ := Option.bind_eq_some_iff.mp h
  have hu1 := Tryd.underlying56
  have e1 : ∀ args w, (callFunc 63 args).run Tryd.prog w = .ok (.enter 63 args) w := enters_of Tryd.func63 (by kernel_rfl) rfl
  have C1 : ∀ W, Below w.heap.size w W → Calls Tryd.prog 58 #[.agg #[.slice A0_0 l0_0.length c0_0, .slice A0_1 l0_1.length c0_1]] W fun e w' => ∃ v0_ : Value, e = .returned (.tuple #[v0_, .bool o2]) ∧ Kd.R (Kd.int .i64) 3 w' W.heap.size (fun _ => True) v0_ o1 ∧ Below W.heap.size W w' :=
    fun W hW => impl_owners.calls A0_0 c0_0 l0_0 A0_1 c0_1 l0_1 o1 o2 W (Kd.C_below hr0_0 hW) hc0_0 (Kd.C_below hr0_1 hW) hc0_1 ho (hT.below hW)
  have C2 : ∀ W, Below w.heap.size w W → Calls Tryd.prog 62 #[.slice A0_1 l0_1.length c0_1, .func (.func 63) #[] #[]] W fun e w' => e = .returned (.bool (l0_1.any fun x => x.f0 != 0)) ∧ Below W.heap.size W w' :=
    fun W hW => ContainsFunc_warp _ _ _ e1 A0_1 c0_1 l0_1 W (Kd.C_below hr0_1 hW) hc0_1 (busy_pred _ W)
  have hB1 : Below w.heap.size w (w.alloc (.cells #[.slice A0_0 l0_0.length c0_0, .slice A0_1 l0_1.length c0_1] 56)) := (Below.refl _ _).alloc (Nat.le_refl _) _
  have hm1 := blk_new w (.cells #[.slice A0_0 l0_0.length c0_0, .slice A0_1 l0_1.length c0_1] 56)
  obtain rfl := Option.some.inj h2
  dsimp only
  generalize (l0_1.any fun x => x.f0 != 0) = b at C2 ⊢
  clear h h2 ho hr0_0 hr0_1 hT
  cases o2
  · go_enter Tryd.func29, Tryd.ntmps29
    go_wp2_with (first | (go_at_call 58; refine (C1 _ hB1).mono ?_; rintro e w2 ⟨v2, rfl, hv2, hb2⟩))
    go_ret
    exact ⟨rfl, below_then hB1 hB1.size hb2⟩
  · go_enter Tryd.func29, Tryd.ntmps29
    go_wp2_with (first | (go_at_call 58; refine (C1 _ hB1).mono ?_; rintro e w2 ⟨v2, rfl, hv2, hb2⟩; have HB := Aside0.mk (below_then hB1 hB1.size hb2); have z1 : w2.cell? ⟨w.heap.size, 1, none⟩ = some (.slice A0_1 l0_1.length c0_1) := (blk_cell (blk_below hm1 hb2) 1).trans rfl) | (go_at_call 62; refine (C2 _ HB.out).mono ?_; rintro e w3 ⟨rfl, hb3⟩))
    go_ret
    exact ⟨by simp, below_then HB.out HB.out.size hb3⟩
end Go.Proofs.YtfhcnnkeokjfpaaDoor.PM1
