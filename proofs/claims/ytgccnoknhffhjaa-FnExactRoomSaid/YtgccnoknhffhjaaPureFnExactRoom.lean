/- The program's Room returns what the reference's Room returns, for every word and class. Conditions: none. -/
import Derived.Test.YtgccnoknhffhjaaOnesPure
import Derived.Test.YtgccnoknhffhjaaPA1x33
namespace Go.Proofs.Ytgccnoknhffhjaa.Pure
open Go.RowKit Go.Proofs.Ytgccnoknhffhjaa.Base Go.Proofs.Ytgccnoknhffhjaa.PA1 Go.Proofs.YtgccnoknhffhjaaW.PrintWords Go.Proofs.YtgccnoknhffhjaaW.PrintLast

theorem FnExactRoom : laws_FnExactRoom.Pure := by
  intro x c hx _
  obtain ⟨h0, h1⟩ := wf_u32 hx
  refine ⟨100, ?_⟩
  unfold laws_FnExactRoom.f
  rw [spec_room x c h0 h1 _ (by omega), impl_room x c h0 h1 _ (by omega)]
  simp

end Go.Proofs.Ytgccnoknhffhjaa.Pure
