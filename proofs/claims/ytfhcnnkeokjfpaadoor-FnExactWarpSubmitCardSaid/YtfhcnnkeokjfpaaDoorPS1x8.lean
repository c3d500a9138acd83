/- What functions of the program compute, each as a Lean function, and that the run comes to just that. Conditions: none. -/
import Derived.Test.YtfhcnnkeokjfpaaDoorTS1
import Derived.Test.YtfhcnnkeokjfpaaDoorT2S1
import Derived.Test.YtfhcnnkeokjfpaaDoorPS1x0
import Derived.Test.YtfhcnnkeokjfpaaDoorPS1x1
import Derived.Test.YtfhcnnkeokjfpaaDoorPS1x7
namespace Go.Proofs.YtfhcnnkeokjfpaaDoor.PS1
open Go.RowKit Go.Proofs.YtfhcnnkeokjfpaaDoorW.PrintWords Go.Proofs.YtfhcnnkeokjfpaaDoorW.PrintLast Go.Proofs.YtfhcnnkeokjfpaaDoorW.PrintMore Go.Proofs.YtfhcnnkeokjfpaaDoor.T
attribute [local go_sem] max2_int min2_int max_two min_two max_three min_three max_four min_four   -- for this text's walks alone
set_option linter.unusedVariables false
set_option linter.unusedSimpArgs false

/-! ### impl_packed: function 111 -/
def impl_packed.f (a0_0 : Int) (a0_1 : Int) (a0_2 : Int) (a0_3 : Int) : Option (Int) := some (Go.bits .or .u32 (Go.bits .or .u32 (Go.bits .or .u32 a0_2 ((((a0_1) % 4294967296) * 65536) % 4294967296)) ((((a0_0) % 4294967296) * 1048576) % 4294967296)) ((((a0_3) % 4294967296) * 16777216) % 4294967296))
set_option maxHeartbeats 8000000 in
set_option maxRecDepth 100000 in
theorem impl_packed.calls (a0_0 : Int) (a0_1 : Int) (a0_2 : Int) (a0_3 : Int) (r : Int) (w : World) (h : impl_packed.f a0_0 a0_1 a0_2 a0_3 = some r) :
  Calls Tryd.prog 111 #[.agg #[.int .i64 a0_0, .int .i64 a0_1, .int .u32 a0_2, .int .i64 a0_3]] w fun e w' => e = .returned (.int .u32 r) ∧ Below w.heap.size w w' := by
 have hu91 := Tryd.underlying91
 have HB := Aside0.mk (Below.refl w.heap.size w)
 unfold impl_packed.f at h
 have H := h
 clear h
 obtain rfl := Option.some.inj H
 go_enter Tryd.func111, Tryd.ntmps111
 go_wp2_with (first | ((with_reducible refine gd 1 ?_); refine bx 1 91 #[.int .i64 a0_0, .int .i64 a0_1, .int .u32 a0_2, .int .i64 a0_3] ?_; clear HB; intro gb777 w2 hg BK777 hb GE777 HB; clear hb hg; obtain ⟨z3_0, z3_1, z3_2, z3_3⟩ := ca4 BK777; obtain ⟨f3_0, f3_1, f3_2, f3_3⟩ := fa4 BK777))
 go_ret
 exact ⟨rt, bw⟩

end Go.Proofs.YtfhcnnkeokjfpaaDoor.PS1
