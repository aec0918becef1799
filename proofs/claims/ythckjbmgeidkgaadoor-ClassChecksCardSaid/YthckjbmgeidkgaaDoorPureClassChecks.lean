/- ClassChecks: every configuration: the law returns true. -/
import Derived.Test.YthckjbmgeidkgaaDoorHTG
namespace Go.Proofs.YthckjbmgeidkgaaDoor.XA
set_option linter.unusedVariables false
set_option linter.unusedSimpArgs false
open Go.RowKit Go.WideMaps Go.Maps Go.Proofs.YthckjbmgeidkgaaDoorW.PrintWords Go.Proofs.YthckjbmgeidkgaaDoorW.PrintLast Go.Proofs.YthckjbmgeidkgaaDoorW.PrintMore
theorem checks_row (W : World) (hg : W.cell? ⟨0, 0, none⟩ = some (.iface 112 (.agg #[.pointer (some ⟨1, 76, none⟩)]))) (cs : Array Value) (c : S33) (hK : k33.K W c cs.toList) (ok : ok33 c) (hsz : sz33 c) :
    Calls Tryd.prog 3 #[.agg cs] W fun e W' => e = .returned (.bool true) ∧ Below W.heap.size W W' := by
  obtain ⟨V, rfl, hC⟩ := cf_of hK hsz
  exact checks_calls V c W hC (nam_of hsz) hg
end Go.Proofs.YthckjbmgeidkgaaDoor.XA
