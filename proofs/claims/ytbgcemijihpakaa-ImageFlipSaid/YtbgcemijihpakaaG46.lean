/- what is handed in: tables, bytes. -/
import Derived.Test.YtbgcemijihpakaaG36
namespace Go.Proofs.Ytbgcemijihpakaa.XA
set_option linter.unusedVariables false
set_option linter.unusedSimpArgs false
open Go.RowKit Go.WideMaps Go.Maps Go.Proofs.YtbgcemijihpakaaW.PrintWords Go.Proofs.YtbgcemijihpakaaW.PrintLast Go.Proofs.YtbgcemijihpakaaW.PrintMore
theorem bd33 {t : S33} (h : sz33 t) : Bd t := by
 obtain ⟨_, _, ⟨h2, _⟩, ⟨h3, _⟩, ⟨h4, _⟩, ⟨h5, _⟩, ⟨h6, _⟩, ⟨h7, _⟩, ⟨h8, _⟩, _⟩ := h
 have e69 : Try.prog.bytesOf 69 = 80 := by kernel_rfl
 have e88 : Try.prog.bytesOf 88 = 16 := by kernel_rfl
 have e66 : Try.prog.bytesOf 66 = 16 := by kernel_rfl
 have e95 : Try.prog.bytesOf 95 = 12 := by kernel_rfl
 have e102 : Try.prog.bytesOf 102 = 48 := by kernel_rfl
 have e107 : Try.prog.bytesOf 107 = 40 := by kernel_rfl
 have e113 : Try.prog.bytesOf 113 = 64 := by kernel_rfl
 have er : reachBytes = 140737488351232 := by decide
 rw [e69, er] at h2
 rw [e88, er] at h3
 rw [e66, er] at h4
 rw [e95, er] at h5
 rw [e102, er] at h6
 rw [e107, er] at h7
 rw [e113, er] at h8
 exact ⟨by omega, by omega, by omega, by omega, by omega, by omega, by omega⟩
theorem wf_u32 {x : Int} (h : (Lit.int .u32 x).wf = true) : W4 x := by
 simp [Lit.wf, IntKind.min, IntKind.max, IntKind.signed, IntKind.bits] at h
 unfold W4
 omega
theorem wf_u64 {x : Int} (h : (Lit.int .u64 x).wf = true) : 0 ≤ x := by
 simp [Lit.wf, IntKind.min, IntKind.max, IntKind.signed, IntKind.bits] at h
 omega
theorem wf_u8 {x : Int} (h : (Lit.int .u8 x).wf = true) : 0 ≤ x ∧ x ≤ 255 := by
 simp [Lit.wf, IntKind.min, IntKind.max, IntKind.signed, IntKind.bits] at h
 omega
theorem ty33 {t : S33} (h : ok33 t) : TyTab t := by
 obtain ⟨_, _, h2, _, _, _, h6, _, h8, _⟩ := h
 refine ⟨fun x hx => ?_, fun x hx => ?_, fun x hx => ?_⟩
 ·obtain ⟨_, _, _, _, a, _, _, b⟩ := h2 x hx
  exact ⟨wf_u32 a, (wf_u32 b).1⟩
 ·obtain ⟨_, ⟨_, _, a⟩, b, c, d⟩ := h6 x hx
  exact ⟨wf_u32 a, (wf_u32 b).1, wf_u32 c, wf_u32 d⟩
 ·obtain ⟨_, _, _, a, _, ⟨_, _, b⟩⟩ := h8 x hx
  exact ⟨wf_u64 a, wf_u32 b⟩
theorem open33 {w : World} {t : S33} {cs : Array Value} (hK : k33.K w t cs.toList) (hsz : sz33 t) : ∃ V, cs = arr V t ∧ Tb w V t := by
 obtain ⟨V, e, h⟩ := k33_open hK (bd33 hsz)
 exact ⟨V, Array.toList_inj.mp e, h⟩
end Go.Proofs.Ytbgcemijihpakaa.XA
