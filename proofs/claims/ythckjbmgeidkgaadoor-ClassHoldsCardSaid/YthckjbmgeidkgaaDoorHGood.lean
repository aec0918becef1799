/- what a caller hands in, as the class chapter reads it. -/
import Derived.Test.YthckjbmgeidkgaaDoorHCfg
namespace Go.Proofs.YthckjbmgeidkgaaDoor.XA
set_option linter.unusedVariables false
set_option linter.unusedSimpArgs false
open Go.RowKit Go.WideMaps Go.Maps Go.Proofs.YthckjbmgeidkgaaDoorW.PrintWords Go.Proofs.YthckjbmgeidkgaaDoorW.PrintLast Go.Proofs.YthckjbmgeidkgaaDoorW.PrintMore
theorem cf_of {w : World} {c : S33} {cs : Array Value} (hK : k33.K w c cs.toList) (hsz : sz33 c) : ∃ V, cs = arr V c ∧ Cf w V c := by
  have hb : Bd c := by
    obtain ⟨_, _, h2, h3, h4, h5, h6, h7, h8, h9⟩ := hsz
    have er : reachBytes = 140737488351232 := by decide
    have e9 : Tryd.prog.bytesOf 9 = 16 := by kernel_rfl
    have e49 : Tryd.prog.bytesOf 49 = 136 := by kernel_rfl
    have e65 : Tryd.prog.bytesOf 65 = 32 := by kernel_rfl
    have e53 : Tryd.prog.bytesOf 53 = 24 := by kernel_rfl
    have e62 : Tryd.prog.bytesOf 62 = 32 := by kernel_rfl
    have e60 : Tryd.prog.bytesOf 60 = 96 := by kernel_rfl
    have e55 : Tryd.prog.bytesOf 55 = 80 := by kernel_rfl
    have e91 : Tryd.prog.bytesOf 91 = 96 := by kernel_rfl
    have e3 : Tryd.prog.bytesOf 3 = 8 := by kernel_rfl
    have h2 := h2.1
    have h3 := h3.1
    have h4 := h4.1
    have h5 := h5.1
    have h6 := h6.1
    have h7 := h7.1
    have h9 := h9.1
    obtain ⟨h8, g8⟩ := h8
    rw [er] at h2 h3 h4 h5 h6 h7 h8 h9
    rw [e9] at h2
    rw [e49] at h3
    rw [e65] at h4
    rw [e53] at h5
    rw [e62] at h6
    rw [e60] at h7
    rw [e55] at h8
    rw [e91] at h9
    refine ⟨by omega, by omega, by omega, by omega, by omega, by omega, by omega, by omega, fun x hx => ?_⟩
    obtain ⟨_, _, _, a3, a4⟩ := g8 x hx
    have a3 := a3.1
    have a4 := a4.1
    rw [e3, er] at a3 a4
    exact ⟨by omega, by omega⟩
  obtain ⟨V, hV, hC⟩ := k33_open hK hb
  exact ⟨V, Array.toList_inj.mp hV, hC⟩
end Go.Proofs.YthckjbmgeidkgaaDoor.XA
