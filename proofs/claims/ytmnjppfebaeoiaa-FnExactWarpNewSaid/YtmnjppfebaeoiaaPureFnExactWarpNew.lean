/- The program's WarpNew returns what the reference's WarpNew returns: both are computed. Conditions: none. -/
import Derived.Test.YtmnjppfebaeoiaaPB1x48
namespace Go.Proofs.Ytmnjppfebaeoiaa.Pure
open Go.RowKit Go.Proofs.Ytmnjppfebaeoiaa.PB1 Go.Proofs.YtmnjppfebaeoiaaW.PrintWords Go.Proofs.YtmnjppfebaeoiaaW.PrintLast

theorem FnExactWarpNew : laws_FnExactWarpNew.Pure := ⟨50, by decide +kernel⟩

end Go.Proofs.Ytmnjppfebaeoiaa.Pure
