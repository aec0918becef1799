/- CeilNames: the numbers of the errors and kinds of package api that chapter 08 speaks of are the document's. No condition: the law has no parameter. -/
import Derived.Test.YtflkbheginhfiaaPCeilNamesx1
namespace Go.Proofs.Ytflkbheginhfiaa.Pure
open Go.RowKit Go.Proofs.Ytflkbheginhfiaa.PCeilNames Go.Proofs.YtflkbheginhfiaaW.PrintWords Go.Proofs.YtflkbheginhfiaaW.PrintLast

theorem CeilNames : tappetlaw08_CeilNames.Pure := by
  unfold tappetlaw08_CeilNames.Pure tappetlaw08_CeilNames.f tappetlaw08_num.f
  simp

end Go.Proofs.Ytflkbheginhfiaa.Pure
