/- ImageNames: the numbers of the errors and parts that chapter 10 speaks of are the document's. No condition: the law has no parameter. -/
import Derived.Test.YtbgcemijihpakaaPImageNamesx1
namespace Go.Proofs.Ytbgcemijihpakaa.Pure
open Go.RowKit Go.Proofs.Ytbgcemijihpakaa.PImageNames Go.Proofs.YtbgcemijihpakaaW.PrintWords Go.Proofs.YtbgcemijihpakaaW.PrintLast

theorem ImageNames : tappetlaw10_ImageNames.Pure := by
  unfold tappetlaw10_ImageNames.Pure tappetlaw10_ImageNames.f tappetlaw10_num.f
  simp

end Go.Proofs.Ytbgcemijihpakaa.Pure
