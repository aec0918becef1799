/-
  No cell of these rows narrows 'for every input' (looked for: loops, veiled, ifaces, maps, wideKeys, modest, calm, conditions, laid).
  DERIVED. THE GIVEN ROWS OF THIS SEAT. 6 by the template 'for every input the law returns true; each argument reads behind the call as it read before'; 0 by the template 'total and deterministic' (their statements: YtflkbheginhfiaaTotals.lean).
  GIVEN WITH THE SEED: the statements are not yours to turn. If you find one false, say at which input.
  Laid BY PROGRAM, IN A SANDBOX (cutbox-rows.mjs): the forced cells as the released guide's own fill.sh prints them over the translation 87a2c3f515e4028b… (all of the seat's roots in one cut). By AI agents, Wed Nov 11 2026. No macro, syntax, notation, axiom, sorry.
-/
import Derived.Test.YtflkbheginhfiaaChecked
import GoSem.Claim
import GoSem.ClaimJoined
import GoSem.ClaimMapViews
import Derived.JoinedTies
import Derived.KernelRfl
namespace Go.Proofs.Ytflkbheginhfiaa
/- THE CELL 'sum', in the pinned program and in every row, IS THE sha256 OF THE DUMP (.gsa) THAT YtflkbheginhfiaaProg.lean LOADS. Nothing in Lean hashes anything: it is a label: what it is worth is what the hold of that sum in a sandbox is worth. -/
noncomputable def Try.pinned : Pinned := { name := "ytflkbheginhfiaa", sum := "87a2c3f515e4028b375cceb36df5facb0869109f6fbc56e3b6efa377cccd9bdd", checked := Try.checked }
namespace Rows
def none {H : Type} : Left H := { results := [], args := [] }

/-- 'tappetlaw08.CeilNames': WHATEVER THE INPUT: true; the input reads as it did. -/
def ceilNamesSpec : ChangeSpec := { name := "ceilNames", fn := fun _ => fun
  | [] => { results := [.lit (.bool true)], args := [] }
  | _ => none }
def ceilNamesRow : OpenClaim := { program := "ytflkbheginhfiaa", sum := "87a2c3f515e4028b375cceb36df5facb0869109f6fbc56e3b6efa377cccd9bdd", func := "tappet/tappetlaw08.CeilNames", spec := "ceilNames", apart := false }
def CeilNamesSaid : Prop := ceilNamesRow.holds Try.pinned (OpenSpec.ofChange ceilNamesSpec)

/-- ITS FALSE NEIGHBOUR: 'it returns false'. Refute it at one input. -/
def ceilNamesWrong : ChangeSpec := { name := "ceilNames", fn := fun _ => fun
  | [] => { results := [.lit (.bool false)], args := [] }
  | _ => none }
def CeilNamesWrongFalsely : Prop := ceilNamesRow.holds Try.pinned (OpenSpec.ofChange ceilNamesWrong)

/-- 'tappetlaw08.CeilChecks': WHATEVER THE INPUT: true; the input reads as it did. -/
def ceilChecksSpec : ChangeSpec := { name := "ceilChecks", fn := fun _ => fun
  | [d] => { results := [.lit (.bool true)], args := [d] }
  | _ => none }
def ceilChecksRow : OpenClaim := { program := "ytflkbheginhfiaa", sum := "87a2c3f515e4028b375cceb36df5facb0869109f6fbc56e3b6efa377cccd9bdd", func := "tappet/tappetlaw08.CeilChecks", spec := "ceilChecks", unfollowed := true, recurses := true, apart := false }
def CeilChecksSaid : Prop := ceilChecksRow.holds Try.pinned (OpenSpec.ofChange ceilChecksSpec)

/-- ITS FALSE NEIGHBOUR: 'it returns false'. Refute it at one input. -/
def ceilChecksWrong : ChangeSpec := { name := "ceilChecks", fn := fun _ => fun
  | [d] => { results := [.lit (.bool false)], args := [d] }
  | _ => none }
def CeilChecksWrongFalsely : Prop := ceilChecksRow.holds Try.pinned (OpenSpec.ofChange ceilChecksWrong)

/-- 'tappetlaw08.CeilAsks': WHATEVER THE INPUT: true; the input reads as it did. -/
def ceilAsksSpec : ChangeSpec := { name := "ceilAsks", fn := fun _ => fun
  | [d1, d2, d3, d4] => { results := [.lit (.bool true)], args := [d1, d2, d3, d4] }
  | _ => none }
def ceilAsksRow : OpenClaim := { program := "ytflkbheginhfiaa", sum := "87a2c3f515e4028b375cceb36df5facb0869109f6fbc56e3b6efa377cccd9bdd", func := "tappet/tappetlaw08.CeilAsks", spec := "ceilAsks", unfollowed := true, recurses := true, apart := false }
def CeilAsksSaid : Prop := ceilAsksRow.holds Try.pinned (OpenSpec.ofChange ceilAsksSpec)

/-- ITS FALSE NEIGHBOUR: 'it returns false'. Refute it at one input. -/
def ceilAsksWrong : ChangeSpec := { name := "ceilAsks", fn := fun _ => fun
  | [d1, d2, d3, d4] => { results := [.lit (.bool false)], args := [d1, d2, d3, d4] }
  | _ => none }
def CeilAsksWrongFalsely : Prop := ceilAsksRow.holds Try.pinned (OpenSpec.ofChange ceilAsksWrong)

/-- 'tappetlaw08.CeilLeast': WHATEVER THE INPUT: true; the input reads as it did. -/
def ceilLeastSpec : ChangeSpec := { name := "ceilLeast", fn := fun _ => fun
  | [d1, d2] => { results := [.lit (.bool true)], args := [d1, d2] }
  | _ => none }
def ceilLeastRow : OpenClaim := { program := "ytflkbheginhfiaa", sum := "87a2c3f515e4028b375cceb36df5facb0869109f6fbc56e3b6efa377cccd9bdd", func := "tappet/tappetlaw08.CeilLeast", spec := "ceilLeast", unfollowed := true, recurses := true, apart := false }
def CeilLeastSaid : Prop := ceilLeastRow.holds Try.pinned (OpenSpec.ofChange ceilLeastSpec)

/-- ITS FALSE NEIGHBOUR: 'it returns false'. Refute it at one input. -/
def ceilLeastWrong : ChangeSpec := { name := "ceilLeast", fn := fun _ => fun
  | [d1, d2] => { results := [.lit (.bool false)], args := [d1, d2] }
  | _ => none }
def CeilLeastWrongFalsely : Prop := ceilLeastRow.holds Try.pinned (OpenSpec.ofChange ceilLeastWrong)

/-- 'tappetlaw08.CeilGrows': WHATEVER THE INPUT: true; the input reads as it did. -/
def ceilGrowsSpec : ChangeSpec := { name := "ceilGrows", fn := fun _ => fun
  | [d1, d2, d3] => { results := [.lit (.bool true)], args := [d1, d2, d3] }
  | _ => none }
def ceilGrowsRow : OpenClaim := { program := "ytflkbheginhfiaa", sum := "87a2c3f515e4028b375cceb36df5facb0869109f6fbc56e3b6efa377cccd9bdd", func := "tappet/tappetlaw08.CeilGrows", spec := "ceilGrows", unfollowed := true, recurses := true, apart := false }
def CeilGrowsSaid : Prop := ceilGrowsRow.holds Try.pinned (OpenSpec.ofChange ceilGrowsSpec)

/-- ITS FALSE NEIGHBOUR: 'it returns false'. Refute it at one input. -/
def ceilGrowsWrong : ChangeSpec := { name := "ceilGrows", fn := fun _ => fun
  | [d1, d2, d3] => { results := [.lit (.bool false)], args := [d1, d2, d3] }
  | _ => none }
def CeilGrowsWrongFalsely : Prop := ceilGrowsRow.holds Try.pinned (OpenSpec.ofChange ceilGrowsWrong)

/-- 'tappetlaw08.CeilOwn': WHATEVER THE INPUT: true; the input reads as it did. -/
def ceilOwnSpec : ChangeSpec := { name := "ceilOwn", fn := fun _ => fun
  | [d1, d2] => { results := [.lit (.bool true)], args := [d1, d2] }
  | _ => none }
def ceilOwnRow : OpenClaim := { program := "ytflkbheginhfiaa", sum := "87a2c3f515e4028b375cceb36df5facb0869109f6fbc56e3b6efa377cccd9bdd", func := "tappet/tappetlaw08.CeilOwn", spec := "ceilOwn", unfollowed := true, recurses := true, apart := false }
def CeilOwnSaid : Prop := ceilOwnRow.holds Try.pinned (OpenSpec.ofChange ceilOwnSpec)

/-- ITS FALSE NEIGHBOUR: 'it returns false'. Refute it at one input. -/
def ceilOwnWrong : ChangeSpec := { name := "ceilOwn", fn := fun _ => fun
  | [d1, d2] => { results := [.lit (.bool false)], args := [d1, d2] }
  | _ => none }
def CeilOwnWrongFalsely : Prop := ceilOwnRow.holds Try.pinned (OpenSpec.ofChange ceilOwnWrong)

/- THE SECOND FORM. 'bulk': how many values and letters a reading holds, each counted each time it is reached (what is shared counts as often as it is met; a slice's spare places count too). A statement '..UptoSaid' is the law's where the arguments, and the package variables that the reading takes, are together of bulk at most 1048576: NARROWER than '..Said'. Prove '..Said' where nothing that the law and all that it calls make is longer than what came in: it says more and counts as full. Else prove '..UptoSaid'. A law counts once. -/
mutual
def uptoBulk {H : Type} : DataW H → Nat
  | .lit (.string bytes) => bytes.length + 1
  | .lit _ => 1
  | .nil => 1
  | .ptr d => uptoBulk d + 1
  | .slice elems spare => uptoBulkAll elems + uptoBulkAll spare + 1
  | .agg parts => uptoBulkAll parts + 1
  | .iface _ d => uptoBulk d + 1
  | .map entries => uptoBulkEntries entries + 1
  | .held _ => 1
def uptoBulkAll {H : Type} : List (DataW H) → Nat
  | [] => 0
  | d :: r => uptoBulk d + uptoBulkAll r
def uptoBulkEntries {H : Type} : List (Lit × DataW H) → Nat
  | [] => 0
  | x :: r => uptoBulkEntry x + uptoBulkEntries r
def uptoBulkEntry {H : Type} : Lit × DataW H → Nat
  | (.string bytes, d) => bytes.length + uptoBulk d + 1
  | (_, d) => uptoBulk d + 1
 end
def uptoSmall : (H : Type) → List (DataW H) → Bool := fun _ ds => decide (uptoBulkAll ds ≤ 1048576)
def OpenSpec.upto (s : _root_.Go.ChangeSpec) : _root_.Go.OpenSpec := { _root_.Go.OpenSpec.ofChange s with cond := some uptoSmall }

/-- 'tappetlaw08.CeilNames', WHERE WHAT IT READS IS OF BULK AT MOST 1048576: true; the input reads as it did. -/
def ceilNamesUptoRow : OpenClaim := { program := "ytflkbheginhfiaa", sum := "87a2c3f515e4028b375cceb36df5facb0869109f6fbc56e3b6efa377cccd9bdd", func := "tappet/tappetlaw08.CeilNames", spec := "ceilNames", apart := false, narrowed := true }
def CeilNamesUptoSaid : Prop := ceilNamesUptoRow.holds Try.pinned (OpenSpec.upto ceilNamesSpec)

/-- 'tappetlaw08.CeilChecks', WHERE WHAT IT READS IS OF BULK AT MOST 1048576: true; the input reads as it did. -/
def ceilChecksUptoRow : OpenClaim := { program := "ytflkbheginhfiaa", sum := "87a2c3f515e4028b375cceb36df5facb0869109f6fbc56e3b6efa377cccd9bdd", func := "tappet/tappetlaw08.CeilChecks", spec := "ceilChecks", unfollowed := true, recurses := true, apart := false, narrowed := true }
def CeilChecksUptoSaid : Prop := ceilChecksUptoRow.holds Try.pinned (OpenSpec.upto ceilChecksSpec)

/-- 'tappetlaw08.CeilAsks', WHERE WHAT IT READS IS OF BULK AT MOST 1048576: true; the input reads as it did. -/
def ceilAsksUptoRow : OpenClaim := { program := "ytflkbheginhfiaa", sum := "87a2c3f515e4028b375cceb36df5facb0869109f6fbc56e3b6efa377cccd9bdd", func := "tappet/tappetlaw08.CeilAsks", spec := "ceilAsks", unfollowed := true, recurses := true, apart := false, narrowed := true }
def CeilAsksUptoSaid : Prop := ceilAsksUptoRow.holds Try.pinned (OpenSpec.upto ceilAsksSpec)

/-- 'tappetlaw08.CeilLeast', WHERE WHAT IT READS IS OF BULK AT MOST 1048576: true; the input reads as it did. -/
def ceilLeastUptoRow : OpenClaim := { program := "ytflkbheginhfiaa", sum := "87a2c3f515e4028b375cceb36df5facb0869109f6fbc56e3b6efa377cccd9bdd", func := "tappet/tappetlaw08.CeilLeast", spec := "ceilLeast", unfollowed := true, recurses := true, apart := false, narrowed := true }
def CeilLeastUptoSaid : Prop := ceilLeastUptoRow.holds Try.pinned (OpenSpec.upto ceilLeastSpec)

/-- 'tappetlaw08.CeilGrows', WHERE WHAT IT READS IS OF BULK AT MOST 1048576: true; the input reads as it did. -/
def ceilGrowsUptoRow : OpenClaim := { program := "ytflkbheginhfiaa", sum := "87a2c3f515e4028b375cceb36df5facb0869109f6fbc56e3b6efa377cccd9bdd", func := "tappet/tappetlaw08.CeilGrows", spec := "ceilGrows", unfollowed := true, recurses := true, apart := false, narrowed := true }
def CeilGrowsUptoSaid : Prop := ceilGrowsUptoRow.holds Try.pinned (OpenSpec.upto ceilGrowsSpec)

/-- 'tappetlaw08.CeilOwn', WHERE WHAT IT READS IS OF BULK AT MOST 1048576: true; the input reads as it did. -/
def ceilOwnUptoRow : OpenClaim := { program := "ytflkbheginhfiaa", sum := "87a2c3f515e4028b375cceb36df5facb0869109f6fbc56e3b6efa377cccd9bdd", func := "tappet/tappetlaw08.CeilOwn", spec := "ceilOwn", unfollowed := true, recurses := true, apart := false, narrowed := true }
def CeilOwnUptoSaid : Prop := ceilOwnUptoRow.holds Try.pinned (OpenSpec.upto ceilOwnSpec)

end Rows
end Go.Proofs.Ytflkbheginhfiaa
