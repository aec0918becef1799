/- OctetNobody: the walk of the law: every call on a reader that no call made answers ErrNil and nothing. -/
import Derived.Test.YtbhlalnpefijkaaHNob
import Derived.Test.YtbhlalnpefijkaaXCx2
namespace Go.Proofs.Ytbhlalnpefijkaa
open Go.RowKit Go.Proofs.YtbhlalnpefijkaaW.PrintWords Go.Proofs.YtbhlalnpefijkaaW.PrintLast Go.Proofs.YtbhlalnpefijkaaW.PrintMore

set_option maxRecDepth 1000000 in
set_option maxHeartbeats 1000000 in
theorem octetNobody_walk (w : World) (n : Int) (_hn : (Lit.int .i64 n).wf = true) :
    Calls Try.prog 8 #[.int .i64 n] w fun e w' => e = .returned (.bool true) ∧ Below w.heap.size w w' := by
  go_enter Try.func8, Try.ntmps8
  go_wp2_with fail
  refine (nobody_calls none n _ (.inl rfl)).mono ?_
  rintro e w' ⟨rfl, rfl⟩
  go_wp2_with fail
  refine (nobody_calls (some ⟨w.heap.size, 0, none⟩) n _ (.inr ⟨_, rfl, by simp, by simp⟩)).mono ?_
  rintro e w' ⟨rfl, rfl⟩
  go_wp2_with fail
  refine (XC.tappetlaw01_heads.calls true _ rfl).mono ?_
  rintro e w2 ⟨rfl, hb⟩
  go_wp2_with fail
  go_ret
  exact ⟨rfl, ((Below.refl _ _).alloc (Nat.le_refl _) _).trans (hb.mono (by simp))⟩

end Go.Proofs.Ytbhlalnpefijkaa
