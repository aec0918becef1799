/- CeilLeast: every configuration, every resource: the law returns true. -/
import Derived.Test.YtflkbheginhfiaaHK
import Derived.Test.YtflkbheginhfiaaHJ
namespace Go.Proofs.Ytflkbheginhfiaa.XA
set_option linter.unusedVariables false
set_option linter.unusedSimpArgs false
open Go.RowKit Go.WideMaps Go.Maps Go.Proofs.YtflkbheginhfiaaW.PrintWords Go.Proofs.YtflkbheginhfiaaW.PrintLast Go.Proofs.YtflkbheginhfiaaW.PrintMore
theorem least_row (W : World) (cs : Array Value) (c : S36) (hK : k36.K W c cs.toList) (ok : ok36 c) (hsz : sz36 c) (r : Int) (_ : (Lit.int .i64 r).wf = true) :
    Calls Try.prog 6 #[.agg cs, .int .i64 r] W fun e W' => e = .returned (.bool true) ∧ Below W.heap.size W W' := by
  obtain ⟨x, AT, cT, AR, cR, AI, cI, rfl, g, _⟩ := good_of hK hsz
  exact least_calls x AT cT AR cR AI cI c.f3 c.f4 c.f8 r W g
end Go.Proofs.Ytflkbheginhfiaa.XA
