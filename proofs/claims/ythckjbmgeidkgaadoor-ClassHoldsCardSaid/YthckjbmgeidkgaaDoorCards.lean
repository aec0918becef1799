/-
  DERIVED. GIVEN WITH THE SEED: THE CARDS: each row of YthckjbmgeidkgaaDoorRows.lean that lists a variable, with what it lists TIED to the program's text (the seventh form; the later family's looks); each row that meets fmt, with fmt's text TOLD by the authors' own Lean function (tested against real Go, not proved from fmt's source: count such statements apart). THE CARD IS WHAT COUNTS. Prove the row's statement (the work); the ties are given (YthckjbmgeidkgaaDoorTie.lean); close each card by the builder's one call (the guide's Derived/Test/ToyasCard.lean, 'card_holds'). Laid BY PROGRAM, IN A SANDBOX (cutbox-door.mjs). By AI agents, Wed Nov 11 2026. No macro, syntax, notation, axiom, sorry.
-/
import Derived.Test.YthckjbmgeidkgaaDoorRows
import GoSem.ClaimSeven
namespace Go.Proofs.YthckjbmgeidkgaaDoor
namespace Rows

/-- THE TIED CARD OF 'tappetlaw07.ClassChecks'. -/
def classChecksCard : Claim7 := { stood := { row := classChecksRow, standIns := [], harness := (true, "b96b6c5a585f6d16d8fa4d35afa750899a4bada0dfe384f4a8094fcc311575cc"), looks := true }, kinds := [], alts := [], laidByText := true, laidKinds := [.handle], laidTests := true, laidLooks := .later }
def ClassChecksCardSaid : Prop := Claim7.holds Tryd.pinned (.plain (OpenSpec.ofChange classChecksSpec)) classChecksCard

/-- THE TIED CARD OF 'tappetlaw07.ClassTells'. -/
def classTellsCard : Claim7 := { stood := { row := classTellsRow, standIns := [], harness := (true, "b96b6c5a585f6d16d8fa4d35afa750899a4bada0dfe384f4a8094fcc311575cc"), looks := true }, kinds := [], alts := [], laidByText := true, laidKinds := [.handle], laidTests := true, laidLooks := .later }
def ClassTellsCardSaid : Prop := Claim7.holds Tryd.pinned (.plain (OpenSpec.ofChange classTellsSpec)) classTellsCard

/-- THE TIED CARD OF 'tappetlaw07.ClassHolds'. -/
def classHoldsCard : Claim7 := { stood := { row := classHoldsRow, standIns := [], harness := (true, "b96b6c5a585f6d16d8fa4d35afa750899a4bada0dfe384f4a8094fcc311575cc"), looks := true }, kinds := [], alts := [], laidByText := true, laidKinds := [.handle], laidTests := true, laidLooks := .later }
def ClassHoldsCardSaid : Prop := Claim7.holds Tryd.pinned (.plain (OpenSpec.ofChange classHoldsSpec)) classHoldsCard

/-- THE TIED CARD OF 'tappetlaw07.ClassRoots'. -/
def classRootsCard : Claim7 := { stood := { row := classRootsRow, standIns := [], harness := (true, "b96b6c5a585f6d16d8fa4d35afa750899a4bada0dfe384f4a8094fcc311575cc"), looks := true }, kinds := [], alts := [], laidByText := true, laidKinds := [.handle], laidTests := true, laidLooks := .later }
def ClassRootsCardSaid : Prop := Claim7.holds Tryd.pinned (.plain (OpenSpec.ofChange classRootsSpec)) classRootsCard

/-- THE SECOND FORM's CARD OF 'tappetlaw07.ClassChecks'. -/
def classChecksUptoCard : Claim7 := { stood := { row := classChecksUptoRow, standIns := [], harness := (true, "b96b6c5a585f6d16d8fa4d35afa750899a4bada0dfe384f4a8094fcc311575cc"), looks := true }, kinds := [], alts := [], laidByText := true, laidKinds := [.handle], laidTests := true, laidLooks := .later }
def ClassChecksUptoCardSaid : Prop := Claim7.holds Tryd.pinned (.plain (OpenSpec.upto classChecksSpec)) classChecksUptoCard

/-- THE SECOND FORM's CARD OF 'tappetlaw07.ClassTells'. -/
def classTellsUptoCard : Claim7 := { stood := { row := classTellsUptoRow, standIns := [], harness := (true, "b96b6c5a585f6d16d8fa4d35afa750899a4bada0dfe384f4a8094fcc311575cc"), looks := true }, kinds := [], alts := [], laidByText := true, laidKinds := [.handle], laidTests := true, laidLooks := .later }
def ClassTellsUptoCardSaid : Prop := Claim7.holds Tryd.pinned (.plain (OpenSpec.upto classTellsSpec)) classTellsUptoCard

/-- THE SECOND FORM's CARD OF 'tappetlaw07.ClassHolds'. -/
def classHoldsUptoCard : Claim7 := { stood := { row := classHoldsUptoRow, standIns := [], harness := (true, "b96b6c5a585f6d16d8fa4d35afa750899a4bada0dfe384f4a8094fcc311575cc"), looks := true }, kinds := [], alts := [], laidByText := true, laidKinds := [.handle], laidTests := true, laidLooks := .later }
def ClassHoldsUptoCardSaid : Prop := Claim7.holds Tryd.pinned (.plain (OpenSpec.upto classHoldsSpec)) classHoldsUptoCard

/-- THE SECOND FORM's CARD OF 'tappetlaw07.ClassRoots'. -/
def classRootsUptoCard : Claim7 := { stood := { row := classRootsUptoRow, standIns := [], harness := (true, "b96b6c5a585f6d16d8fa4d35afa750899a4bada0dfe384f4a8094fcc311575cc"), looks := true }, kinds := [], alts := [], laidByText := true, laidKinds := [.handle], laidTests := true, laidLooks := .later }
def ClassRootsUptoCardSaid : Prop := Claim7.holds Tryd.pinned (.plain (OpenSpec.upto classRootsSpec)) classRootsUptoCard
end Rows
end Go.Proofs.YthckjbmgeidkgaaDoor
