/- The program's Release returns what the reference's Release returns, for every word and offset. Conditions: none. -/
import Derived.Test.YtgccnoknhffhjaaRelPure
import Derived.Test.YtgccnoknhffhjaaPA1x32
namespace Go.Proofs.Ytgccnoknhffhjaa.Pure
open Go.RowKit Go.Proofs.Ytgccnoknhffhjaa.Base Go.Proofs.Ytgccnoknhffhjaa.PA1 Go.Proofs.YtgccnoknhffhjaaW.PrintWords Go.Proofs.YtgccnoknhffhjaaW.PrintLast

theorem all (x off : Int) (h0 : 0 ≤ x) (h1 : x ≤ 4294967295) (k : Nat) (hk : 100 < k) : laws_FnExactRelease.f k x off = some true := by
  unfold laws_FnExactRelease.f
  rw [spec_release x off h0 h1 k hk, impl_release x off h0 h1 k (by omega)]
  simp
theorem FnExactRelease : laws_FnExactRelease.Pure := fun x off hx _ => ⟨101, all x off (wf_u32 hx).1 (wf_u32 hx).2 101 (by omega)⟩

end Go.Proofs.Ytgccnoknhffhjaa.Pure
