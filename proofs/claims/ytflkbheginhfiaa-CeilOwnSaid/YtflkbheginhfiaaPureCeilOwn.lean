/- CeilOwn: every configuration, every resource: the law returns true. -/
import Derived.Test.YtflkbheginhfiaaHJ
import Derived.Test.YtflkbheginhfiaaHL
namespace Go.Proofs.Ytflkbheginhfiaa.XA
set_option linter.unusedVariables false
set_option linter.unusedSimpArgs false
open Go.RowKit Go.WideMaps Go.Maps Go.Proofs.YtflkbheginhfiaaW.PrintWords Go.Proofs.YtflkbheginhfiaaW.PrintLast Go.Proofs.YtflkbheginhfiaaW.PrintMore
theorem tight_of {c : S36} (hsz : sz36 c) : Tight c.f3 c.f8 := by
  obtain ⟨_, _, _, h3, _, _, _, _, h8, _⟩ := hsz
  have e64 : Try.prog.bytesOf 64 = 136 := by kernel_rfl
  have e66 : Try.prog.bytesOf 66 = 80 := by kernel_rfl
  have e3 : Try.prog.bytesOf 3 = 8 := by kernel_rfl
  have er : reachBytes = 140737488351232 := by decide
  obtain ⟨h3, g3⟩ := h3
  obtain ⟨h8, g8⟩ := h8
  rw [e64] at h3
  rw [e66] at h8
  rw [er] at h3 h8
  refine ⟨by omega, by omega, fun k hk => ?_, fun k hk => ?_⟩
  · have hm : c.f3.getD k z64 ∈ c.f3 := by
      rw [List.getD_eq_getElem?_getD, List.getElem?_eq_getElem hk]
      exact List.getElem_mem hk
    obtain ⟨_, _, _, _, _, h5, _⟩ := g3 _ hm
    have h5 := h5.1
    rw [e3, er] at h5
    omega
  · have hm : c.f8.getD k z66 ∈ c.f8 := by
      rw [List.getD_eq_getElem?_getD, List.getElem?_eq_getElem hk]
      exact List.getElem_mem hk
    obtain ⟨_, _, _, h5, _⟩ := g8 _ hm
    have h5 := h5.1
    rw [e3, er] at h5
    omega
theorem own_row (W : World) (cs : Array Value) (c : S36) (hK : k36.K W c cs.toList) (ok : ok36 c) (hsz : sz36 c) (r : Int) (_ : (Lit.int .i64 r).wf = true) :
    Calls Try.prog 8 #[.agg cs, .int .i64 r] W fun e W' => e = .returned (.bool true) ∧ Below W.heap.size W W' := by
  obtain ⟨x, AT, cT, AR, cR, AI, cI, rfl, g, _⟩ := good_of hK hsz
  exact own_calls x AT cT AR cR AI cI c.f3 c.f4 c.f8 r W g (tight_of hsz)
end Go.Proofs.Ytflkbheginhfiaa.XA
