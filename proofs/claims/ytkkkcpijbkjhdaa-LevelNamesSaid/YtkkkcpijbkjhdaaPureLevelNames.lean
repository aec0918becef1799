/- LevelNames: every context, status and state bears the document's name and number. Conditions: the three numbers are numbers of 64 bits, the name no longer than 2^47 - 2^16 bytes (in truth any). -/
import Derived.Test.YtkkkcpijbkjhdaaHPure
namespace Go.Proofs.Ytkkkcpijbkjhdaa.Pure
open Go.RowKit Go.Proofs.Ytkkkcpijbkjhdaa.XA Go.Proofs.YtkkkcpijbkjhdaaW.PrintWords Go.Proofs.YtkkkcpijbkjhdaaW.PrintLast

theorem LevelNames : tappetlaw17_LevelNames.Pure := by
  intro a0 a1 a2 a3 _ _ _ h3
  refine ⟨60, ?_⟩
  obtain ⟨v, hv1, hv2⟩ := of_eq a0 a1
  unfold tappetlaw17_LevelNames.f level_StatusOf.f level_Status.f level_Frame.f level_State.f
  rw [if_pos h3, refStatusOf a3 60 (by omega), hv1, hv2, status_eq, frame_eq, state_eq, heads_f 60 (by omega)]
  simp

end Go.Proofs.Ytkkkcpijbkjhdaa.Pure
