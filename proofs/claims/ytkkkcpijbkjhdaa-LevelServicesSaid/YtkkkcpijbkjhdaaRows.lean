/-
  No cell of these rows narrows 'for every input' (looked for: loops, veiled, ifaces, maps, wideKeys, modest, calm, conditions, laid).
  DERIVED. THE GIVEN ROWS OF THIS SEAT. 3 by the template 'for every input the law returns true; each argument reads behind the call as it read before'; 0 by the template 'total and deterministic' (their statements: YtkkkcpijbkjhdaaTotals.lean).
  GIVEN WITH THE SEED: the statements are not yours to turn. If you find one false, say at which input.
  Laid BY PROGRAM, IN A SANDBOX (cutbox-rows.mjs): the forced cells as the released guide's own fill.sh prints them over the translation a2ae3b803860e934… (all of the seat's roots in one cut). By AI agents, Wed Nov 11 2026. No macro, syntax, notation, axiom, sorry.
-/
import Derived.Test.YtkkkcpijbkjhdaaChecked
import GoSem.Claim
import GoSem.ClaimJoined
import GoSem.ClaimMapViews
import Derived.JoinedTies
import Derived.KernelRfl
namespace Go.Proofs.Ytkkkcpijbkjhdaa
/- THE CELL 'sum', in the pinned program and in every row, IS THE sha256 OF THE DUMP (.gsa) THAT YtkkkcpijbkjhdaaProg.lean LOADS. Nothing in Lean hashes anything: it is a label: what it is worth is what the hold of that sum in a sandbox is worth. -/
noncomputable def Try.pinned : Pinned := { name := "ytkkkcpijbkjhdaa", sum := "a2ae3b803860e9345147e01996308b6df24448af6ecbbc77270eed0ba80d5260", checked := Try.checked }
namespace Rows
def none {H : Type} : Left H := { results := [], args := [] }

/-- 'tappetlaw17.LevelNames': WHATEVER THE INPUT: true; the input reads as it did. -/
def levelNamesSpec : ChangeSpec := { name := "levelNames", fn := fun _ => fun
  | [d1, d2, d3, d4] => { results := [.lit (.bool true)], args := [d1, d2, d3, d4] }
  | _ => none }
def levelNamesRow : OpenClaim := { program := "ytkkkcpijbkjhdaa", sum := "a2ae3b803860e9345147e01996308b6df24448af6ecbbc77270eed0ba80d5260", func := "tappet/tappetlaw17.LevelNames", spec := "levelNames", apart := false }
def LevelNamesSaid : Prop := levelNamesRow.holds Try.pinned (OpenSpec.ofChange levelNamesSpec)

/-- ITS FALSE NEIGHBOUR: 'it returns false'. Refute it at one input. -/
def levelNamesWrong : ChangeSpec := { name := "levelNames", fn := fun _ => fun
  | [d1, d2, d3, d4] => { results := [.lit (.bool false)], args := [d1, d2, d3, d4] }
  | _ => none }
def LevelNamesWrongFalsely : Prop := levelNamesRow.holds Try.pinned (OpenSpec.ofChange levelNamesWrong)

/-- 'tappetlaw17.LevelBack': WHATEVER THE INPUT: true; the input reads as it did. -/
def levelBackSpec : ChangeSpec := { name := "levelBack", fn := fun _ => fun
  | [d1, d2, d3] => { results := [.lit (.bool true)], args := [d1, d2, d3] }
  | _ => none }
def levelBackRow : OpenClaim := { program := "ytkkkcpijbkjhdaa", sum := "a2ae3b803860e9345147e01996308b6df24448af6ecbbc77270eed0ba80d5260", func := "tappet/tappetlaw17.LevelBack", spec := "levelBack", apart := false }
def LevelBackSaid : Prop := levelBackRow.holds Try.pinned (OpenSpec.ofChange levelBackSpec)

/-- ITS FALSE NEIGHBOUR: 'it returns false'. Refute it at one input. -/
def levelBackWrong : ChangeSpec := { name := "levelBack", fn := fun _ => fun
  | [d1, d2, d3] => { results := [.lit (.bool false)], args := [d1, d2, d3] }
  | _ => none }
def LevelBackWrongFalsely : Prop := levelBackRow.holds Try.pinned (OpenSpec.ofChange levelBackWrong)

/-- 'tappetlaw17.LevelServices': WHATEVER THE INPUT: true; the input reads as it did. -/
def levelServicesSpec : ChangeSpec := { name := "levelServices", fn := fun _ => fun
  | [d1, d2, d3] => { results := [.lit (.bool true)], args := [d1, d2, d3] }
  | _ => none }
def levelServicesRow : OpenClaim := { program := "ytkkkcpijbkjhdaa", sum := "a2ae3b803860e9345147e01996308b6df24448af6ecbbc77270eed0ba80d5260", func := "tappet/tappetlaw17.LevelServices", spec := "levelServices", apart := false }
def LevelServicesSaid : Prop := levelServicesRow.holds Try.pinned (OpenSpec.ofChange levelServicesSpec)

/-- ITS FALSE NEIGHBOUR: 'it returns false'. Refute it at one input. -/
def levelServicesWrong : ChangeSpec := { name := "levelServices", fn := fun _ => fun
  | [d1, d2, d3] => { results := [.lit (.bool false)], args := [d1, d2, d3] }
  | _ => none }
def LevelServicesWrongFalsely : Prop := levelServicesRow.holds Try.pinned (OpenSpec.ofChange levelServicesWrong)

/- THE SECOND FORM. 'bulk': how many values and letters a reading holds, each counted each time it is reached (what is shared counts as often as it is met; a slice's spare places count too). A statement '..UptoSaid' is the law's where the arguments, and the package variables that the reading takes, are together of bulk at most 1048576: NARROWER than '..Said'. Prove '..Said' where nothing that the law and all that it calls make is longer than what came in: it says more and counts as full. Else prove '..UptoSaid'. A law counts once. -/
mutual
def uptoBulk {H : Type} : DataW H → Nat
  | .lit (.string bytes) => bytes.length + 1
  | .lit _ => 1
  | .nil => 1
  | .ptr d => uptoBulk d + 1
  | .slice elems spare => uptoBulkAll elems + uptoBulkAll spare + 1
  | .agg parts => uptoBulkAll parts + 1
  | .iface _ d => uptoBulk d + 1
  | .map entries => uptoBulkEntries entries + 1
  | .held _ => 1
def uptoBulkAll {H : Type} : List (DataW H) → Nat
  | [] => 0
  | d :: r => uptoBulk d + uptoBulkAll r
def uptoBulkEntries {H : Type} : List (Lit × DataW H) → Nat
  | [] => 0
  | x :: r => uptoBulkEntry x + uptoBulkEntries r
def uptoBulkEntry {H : Type} : Lit × DataW H → Nat
  | (.string bytes, d) => bytes.length + uptoBulk d + 1
  | (_, d) => uptoBulk d + 1
 end
def uptoSmall : (H : Type) → List (DataW H) → Bool := fun _ ds => decide (uptoBulkAll ds ≤ 1048576)
def OpenSpec.upto (s : _root_.Go.ChangeSpec) : _root_.Go.OpenSpec := { _root_.Go.OpenSpec.ofChange s with cond := some uptoSmall }

/-- 'tappetlaw17.LevelNames', WHERE WHAT IT READS IS OF BULK AT MOST 1048576: true; the input reads as it did. -/
def levelNamesUptoRow : OpenClaim := { program := "ytkkkcpijbkjhdaa", sum := "a2ae3b803860e9345147e01996308b6df24448af6ecbbc77270eed0ba80d5260", func := "tappet/tappetlaw17.LevelNames", spec := "levelNames", apart := false, narrowed := true }
def LevelNamesUptoSaid : Prop := levelNamesUptoRow.holds Try.pinned (OpenSpec.upto levelNamesSpec)

/-- 'tappetlaw17.LevelBack', WHERE WHAT IT READS IS OF BULK AT MOST 1048576: true; the input reads as it did. -/
def levelBackUptoRow : OpenClaim := { program := "ytkkkcpijbkjhdaa", sum := "a2ae3b803860e9345147e01996308b6df24448af6ecbbc77270eed0ba80d5260", func := "tappet/tappetlaw17.LevelBack", spec := "levelBack", apart := false, narrowed := true }
def LevelBackUptoSaid : Prop := levelBackUptoRow.holds Try.pinned (OpenSpec.upto levelBackSpec)

/-- 'tappetlaw17.LevelServices', WHERE WHAT IT READS IS OF BULK AT MOST 1048576: true; the input reads as it did. -/
def levelServicesUptoRow : OpenClaim := { program := "ytkkkcpijbkjhdaa", sum := "a2ae3b803860e9345147e01996308b6df24448af6ecbbc77270eed0ba80d5260", func := "tappet/tappetlaw17.LevelServices", spec := "levelServices", apart := false, narrowed := true }
def LevelServicesUptoSaid : Prop := levelServicesUptoRow.holds Try.pinned (OpenSpec.upto levelServicesSpec)

end Rows
end Go.Proofs.Ytkkkcpijbkjhdaa
