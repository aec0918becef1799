/- ClassHolds: every configuration: the law returns true. -/
import Derived.Test.YthckjbmgeidkgaaDoorHGood
import Derived.Test.YthckjbmgeidkgaaDoorHHolds
namespace Go.Proofs.YthckjbmgeidkgaaDoor.XA
set_option linter.unusedVariables false
set_option linter.unusedSimpArgs false
open Go.RowKit Go.WideMaps Go.Maps Go.Proofs.YthckjbmgeidkgaaDoorW.PrintWords Go.Proofs.YthckjbmgeidkgaaDoorW.PrintLast Go.Proofs.YthckjbmgeidkgaaDoorW.PrintMore
theorem masks_of {c : S33} (h : ok33 c) : MasksOk c := by
  intro x hx
  obtain ⟨_, _, _, _, _, h5, _⟩ := h
  have h1 := (h5 x hx).2.1
  have h2 : IntKind.u32.min ≤ x.f1 ∧ x.f1 ≤ IntKind.u32.max := by simpa [Lit.wf] using h1
  have e0 : IntKind.u32.min = 0 := by decide
  have e1 : IntKind.u32.max = 4294967295 := by decide
  rw [e0, e1] at h2
  exact h2
theorem holds_row (W : World) (hg : W.cell? ⟨0, 0, none⟩ = some (.iface 112 (.agg #[.pointer (some ⟨1, 76, none⟩)]))) (cs : Array Value) (c : S33) (hK : k33.K W c cs.toList) (ok : ok33 c) (hsz : sz33 c) :
    Calls Tryd.prog 5 #[.agg cs] W fun e W' => e = .returned (.bool true) ∧ Below W.heap.size W W' := by
  obtain ⟨V, rfl, hC⟩ := cf_of hK hsz
  exact holds_calls V c W hC hg (masks_of ok)
end Go.Proofs.YthckjbmgeidkgaaDoor.XA
