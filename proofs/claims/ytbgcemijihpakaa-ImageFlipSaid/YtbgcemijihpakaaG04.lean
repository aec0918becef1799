/- texts of this claim. -/
import Derived.Test.YtbgcemijihpakaaG01
import Derived.Test.YtbgcemijihpakaaG02
import Derived.Test.YtbgcemijihpakaaG03
import Derived.Test.YtbgcemijihpakaaProg
import Derived.Below
import Derived.Deep.Draws
import Derived.Deep.AppendLies
import Derived.Maps.AppendAt
import Derived.OwnWalk
import Derived.Laws.BytesArg
import Derived.Laws.MakeOwn
import Derived.Laws.OwnMore
import Derived.Deep.OwnRows
import Derived.Tactics
import Derived.Lib.ConvBytes
import Derived.Laws.Slices
import Derived.WalkKit
import Derived.KernelRfl
import Derived.RowKit3
import Derived.Deep.LoopGhost
import Derived.Deep.QuietTactic
import Derived.BigQuiet
import Derived.WideLaws
import Derived.Deep.DeepCutAuto
import Derived.Deep.CutBlock
import Derived.Deep.RegionHeld3
import Derived.Laws.Rows
import Derived.Lib.AppendStr
import Derived.ArgAppend
import Derived.Laws.IdiomCopy
import Derived.OrdersHeld
import Derived.Laws.BitsLemmas
import Derived.RowKit
import Derived.Test.YtbgcemijihpakaaRows
import Derived.ChangeArms
import Derived.DataReads
section
-- PRINTED WORDS (module Derived/Print/More.lean): go-gate-2's additions: an AI agent of Go's test side, Tue Nov 17 2026; no person has read it. Lean checks it.
namespace Go.Proofs.YtbgcemijihpakaaW.PrintMore
open Go.RowKit Go.Proofs.YtbgcemijihpakaaW.PrintWords
/-- 'max' and 'min' of two whole numbers. -/
theorem max2_int (k k' : IntKind) (x y : Int) : Builtin.max2 (.int k x) (.int k' y) = pure (.int k (if x < y then y else x)) := by simp only [Builtin.max2, gt_iff_lt]
theorem min2_int (k k' : IntKind) (x y : Int) : Builtin.min2 (.int k x) (.int k' y) = pure (.int k (if y < x then y else x)) := by simp only [Builtin.min2]
theorem max_two (ats : Array TypeId) (ty : TypeId) (a b : Value) : Builtin.max_ ats ty #[a, b] = (Builtin.max2 a b >>= fun s => pure s) := by simp only [Builtin.max_, List.foldlM_cons, List.foldlM_nil]
theorem min_two (ats : Array TypeId) (ty : TypeId) (a b : Value) : Builtin.min_ ats ty #[a, b] = (Builtin.min2 a b >>= fun s => pure s) := by simp only [Builtin.min_, List.foldlM_cons, List.foldlM_nil]
theorem max_three (ats : Array TypeId) (ty : TypeId) (a b c : Value) : Builtin.max_ ats ty #[a, b, c] = (Builtin.max2 a b >>= fun s => Builtin.max2 s c >>= fun s => pure s) := by simp only [Builtin.max_, List.foldlM_cons, List.foldlM_nil]
theorem min_three (ats : Array TypeId) (ty : TypeId) (a b c : Value) : Builtin.min_ ats ty #[a, b, c] = (Builtin.min2 a b >>= fun s => Builtin.min2 s c >>= fun s => pure s) := by simp only [Builtin.min_, List.foldlM_cons, List.foldlM_nil]
theorem max_four (ats : Array TypeId) (ty : TypeId) (a b c d : Value) : Builtin.max_ ats ty #[a, b, c, d] = (Builtin.max2 a b >>= fun s => Builtin.max2 s c >>= fun s => Builtin.max2 s d >>= fun s => pure s) := by simp only [Builtin.max_, List.foldlM_cons, List.foldlM_nil]
theorem min_four (ats : Array TypeId) (ty : TypeId) (a b c d : Value) : Builtin.min_ ats ty #[a, b, c, d] = (Builtin.min2 a b >>= fun s => Builtin.min2 s c >>= fun s => Builtin.min2 s d >>= fun s => pure s) := by simp only [Builtin.min_, List.foldlM_cons, List.foldlM_nil]
end Go.Proofs.YtbgcemijihpakaaW.PrintMore
namespace Go.Proofs.YtbgcemijihpakaaW.PrintWords
open Go.RowKit
section
variable {P : Program} {ops : Array Oper} {rest : List Oper} {o : Oper} {a : Act} {Q : Exit → Act → World → Prop} {W : World}
/-- The operation is a builtin over these places. -/
theorem gate_builtin {b : Builtin} {xs : Array Operand} {ts : Array TypeId} (_ho : o.op = .call { callee := .builtin b, args := xs, argTypes := ts }) (h : wpList P ops Q (o :: rest) a W) : wpList P ops Q (o :: rest) a W := h
end
/-- The greater of two whole numbers, as Go's max tells it. -/
def mx (a b : Int) : Int := if a < b then b else a
end Go.Proofs.YtbgcemijihpakaaW.PrintWords
namespace Go.Proofs.YtbgcemijihpakaaW.PrintWords
open Go.RowKit
namespace Kd
/-- A row that is only read, told by its value: its form, its length, what it leads to (in ok). e and base say nothing; they make it as the others are. -/
def V {α : Type} (d : Kd α) (_e : Nat) (W : World) (_base : Nat) (ok : Nat → Prop) (v : Value) (xs : List α) : Prop := ∃ A c, v = .slice A xs.length c ∧ xs.length ≤ c ∧ F d W ok A xs.length xs
section
variable {α β : Type} {d : Kd α} {e base base' n m c g N' lo hi : Nat} {ok ok' S : Nat → Prop} {w W w1 : World} {A : Option Addr} {ad : Addr} {u v v1 : Value} {xs : List α}
theorem V_nil (d : Kd α) (e : Nat) (W : World) (base : Nat) (ok : Nat → Prop) : V d e W base ok (.slice none 0 0) [] := ⟨none, 0, rfl, Nat.le_refl _, F_nil d W ok⟩
end
end Kd
end Go.Proofs.YtbgcemijihpakaaW.PrintWords
end
section
-- WRITTEN BY wip/tools/xprint.py: a program of this session's over the kit's printer, with texts of this session's own among them
namespace Go.Proofs.Ytbgcemijihpakaa.XA
open Go.RowKit Go.Proofs.YtbgcemijihpakaaW.PrintWords Go.Proofs.YtbgcemijihpakaaW.PrintLast Go.Proofs.YtbgcemijihpakaaW.PrintMore
attribute [local go_sem] max2_int min2_int max_two min_two max_three min_three max_four min_four   -- for this text's walks alone
set_option linter.unusedVariables false
set_option linter.unusedSimpArgs false



def errW : Option Int → Value
 | none => .nilIface
 | some c => .iface 0 (.int .i64 c)
theorem errW_none : errW none = .nilIface := rfl
theorem errW_some (c : Int) : errW (some c) = .iface 0 (.int .i64 c) := rfl

theorem info3 : (Try.prog.info? 3).map (fun i => (i.zero, i.size, i.bytes)) = some (some (.int .i64 0), 1, 8) := by kernel_rfl
theorem info5 : (Try.prog.info? 5).map (fun i => (i.zero, i.size, i.bytes)) = some (some (.int .u8 0), 1, 1) := by kernel_rfl
theorem info88 : (Try.prog.info? 88).map (fun i => (i.zero, i.size, i.bytes)) = some (some (.agg #[(.int .i64 0), (.int .i64 0)]), 2, 16) := by kernel_rfl
-- the values' own types
/-! #### struct type 69 -/
structure S69 where
 f0 : Int
 f1 : Int
 f2 : Bool
 f3 : Int
 f4 : Int
 f5 : Int
 f6 : (List Int)
 f7 : Int
def z69 : S69 := ⟨(0 : Int), (0 : Int), false, (0 : Int), (0 : Int), (0 : Int), ([] : List Int), (0 : Int)⟩
def k69 : Kd S69 := Kd.iso (Kd.pair (Kd.int .i64) (Kd.pair (Kd.int .i64) (Kd.pair Kd.bool (Kd.pair (Kd.int .i64) (Kd.pair (Kd.int .u32) (Kd.pair (Kd.int .i64) (Kd.pair (Kd.slice 3 (Kd.int .i64)) (Kd.int .u32)))))))) (fun x : S69 => (x.f0, x.f1, x.f2, x.f3, x.f4, x.f5, x.f6, x.f7))
theorem k69_open {w : World} {x : S69} {cs : List Value} (h : k69.K w x cs) : ∃ A6 c6, cs = [.int .i64 x.f0, .int .i64 x.f1, .bool x.f2, .int .i64 x.f3, .int .u32 x.f4, .int .i64 x.f5, .slice A6 x.f6.length c6, .int .u32 x.f7] ∧ x.f6.length ≤ c6 ∧ (Kd.int .i64).C w A6 x.f6.length x.f6 := by
 obtain ⟨_, _, rfl, rfl, ⟨_, _, rfl, rfl, ⟨_, _, rfl, rfl, ⟨_, _, rfl, rfl, ⟨_, _, rfl, rfl, ⟨_, _, rfl, rfl, ⟨_, _, rfl, ⟨A6, c6, rfl, l6, g6⟩, rfl⟩⟩⟩⟩⟩⟩⟩ := h
 exact ⟨A6, c6, rfl, l6, g6⟩
theorem k69_mkM (w : World) (base : Nat) (ok : Nat → Prop) (x : S69) {v6 : Value} (g6 : (Kd.int .i64).R 3 w base ok v6 x.f6) : k69.M w base ok x [.int .i64 x.f0, .int .i64 x.f1, .bool x.f2, .int .i64 x.f3, .int .u32 x.f4, .int .i64 x.f5, v6, .int .u32 x.f7] := ⟨[.int .i64 x.f0], [.int .i64 x.f1, .bool x.f2, .int .i64 x.f3, .int .u32 x.f4, .int .i64 x.f5, v6, .int .u32 x.f7], rfl, rfl, ⟨[.int .i64 x.f1], [.bool x.f2, .int .i64 x.f3, .int .u32 x.f4, .int .i64 x.f5, v6, .int .u32 x.f7], rfl, rfl, ⟨[.bool x.f2], [.int .i64 x.f3, .int .u32 x.f4, .int .i64 x.f5, v6, .int .u32 x.f7], rfl, rfl, ⟨[.int .i64 x.f3], [.int .u32 x.f4, .int .i64 x.f5, v6, .int .u32 x.f7], rfl, rfl, ⟨[.int .u32 x.f4], [.int .i64 x.f5, v6, .int .u32 x.f7], rfl, rfl, ⟨[.int .i64 x.f5], [v6, .int .u32 x.f7], rfl, rfl, ⟨[v6], [.int .u32 x.f7], rfl, ⟨v6, rfl, g6⟩, rfl⟩⟩⟩⟩⟩⟩⟩
/-! #### struct type 88 -/
structure S88 where
 f0 : Int
 f1 : Int
def z88 : S88 := ⟨(0 : Int), (0 : Int)⟩
def k88 : Kd S88 := Kd.iso (Kd.pair (Kd.int .i64) (Kd.int .i64)) (fun x : S88 => (x.f0, x.f1))
theorem k88_open {w : World} {x : S88} {cs : List Value} (h : k88.K w x cs) : cs = [.int .i64 x.f0, .int .i64 x.f1] := by
 obtain ⟨_, _, rfl, rfl, rfl⟩ := h
 exact rfl
theorem k88_mkM (w : World) (base : Nat) (ok : Nat → Prop) (x : S88)  : k88.M w base ok x [.int .i64 x.f0, .int .i64 x.f1] := ⟨[.int .i64 x.f0], [.int .i64 x.f1], rfl, rfl, rfl⟩
/-! #### struct type 66 -/
structure S66 where
 f0 : Bool
 f1 : Int
def z66 : S66 := ⟨false, (0 : Int)⟩
def k66 : Kd S66 := Kd.iso (Kd.pair Kd.bool (Kd.int .i64)) (fun x : S66 => (x.f0, x.f1))
theorem k66_open {w : World} {x : S66} {cs : List Value} (h : k66.K w x cs) : cs = [.bool x.f0, .int .i64 x.f1] := by
 obtain ⟨_, _, rfl, rfl, rfl⟩ := h
 exact rfl
theorem k66_mkM (w : World) (base : Nat) (ok : Nat → Prop) (x : S66)  : k66.M w base ok x [.bool x.f0, .int .i64 x.f1] := ⟨[.bool x.f0], [.int .i64 x.f1], rfl, rfl, rfl⟩
/-! #### struct type 95 -/
structure S95 where
 f0 : Int
 f1 : Int
 f2 : Int
def z95 : S95 := ⟨(0 : Int), (0 : Int), (0 : Int)⟩
def k95 : Kd S95 := Kd.iso (Kd.pair (Kd.int .u32) (Kd.pair (Kd.int .u32) (Kd.int .u32))) (fun x : S95 => (x.f0, x.f1, x.f2))
theorem k95_open {w : World} {x : S95} {cs : List Value} (h : k95.K w x cs) : cs = [.int .u32 x.f0, .int .u32 x.f1, .int .u32 x.f2] := by
 obtain ⟨_, _, rfl, rfl, ⟨_, _, rfl, rfl, rfl⟩⟩ := h
 exact rfl
theorem k95_mkM (w : World) (base : Nat) (ok : Nat → Prop) (x : S95)  : k95.M w base ok x [.int .u32 x.f0, .int .u32 x.f1, .int .u32 x.f2] := ⟨[.int .u32 x.f0], [.int .u32 x.f1, .int .u32 x.f2], rfl, rfl, ⟨[.int .u32 x.f1], [.int .u32 x.f2], rfl, rfl, rfl⟩⟩
/-! #### struct type 100 -/
structure S100 where
 f0 : Int
 f1 : Int
 f2 : Int
def z100 : S100 := ⟨(0 : Int), (0 : Int), (0 : Int)⟩
def k100 : Kd S100 := Kd.iso (Kd.pair (Kd.int .i64) (Kd.pair (Kd.int .i64) (Kd.int .u32))) (fun x : S100 => (x.f0, x.f1, x.f2))
theorem k100_open {w : World} {x : S100} {cs : List Value} (h : k100.K w x cs) : cs = [.int .i64 x.f0, .int .i64 x.f1, .int .u32 x.f2] := by
 obtain ⟨_, _, rfl, rfl, ⟨_, _, rfl, rfl, rfl⟩⟩ := h
 exact rfl
theorem k100_mkM (w : World) (base : Nat) (ok : Nat → Prop) (x : S100)  : k100.M w base ok x [.int .i64 x.f0, .int .i64 x.f1, .int .u32 x.f2] := ⟨[.int .i64 x.f0], [.int .i64 x.f1, .int .u32 x.f2], rfl, rfl, ⟨[.int .i64 x.f1], [.int .u32 x.f2], rfl, rfl, rfl⟩⟩
/-! #### struct type 102 -/
structure S102 where
 f0 : Int
 f1 : S100
 f2 : Int
 f3 : Int
 f4 : Int
def z102 : S102 := ⟨(0 : Int), z100, (0 : Int), (0 : Int), (0 : Int)⟩
def k102 : Kd S102 := Kd.iso (Kd.pair (Kd.int .i64) (Kd.pair k100 (Kd.pair (Kd.int .u32) (Kd.pair (Kd.int .u32) (Kd.int .u32))))) (fun x : S102 => (x.f0, x.f1, x.f2, x.f3, x.f4))
theorem k102_open {w : World} {x : S102} {cs : List Value} (h : k102.K w x cs) : cs = [.int .i64 x.f0, .int .i64 x.f1.f0, .int .i64 x.f1.f1, .int .u32 x.f1.f2, .int .u32 x.f2, .int .u32 x.f3, .int .u32 x.f4] := by
 obtain ⟨_, _, rfl, rfl, ⟨_, _, rfl, s1, ⟨_, _, rfl, rfl, ⟨_, _, rfl, rfl, rfl⟩⟩⟩⟩ := h
 obtain rfl := k100_open s1
 exact rfl
theorem k102_mkM (w : World) (base : Nat) (ok : Nat → Prop) (x : S102)  : k102.M w base ok x [.int .i64 x.f0, .int .i64 x.f1.f0, .int .i64 x.f1.f1, .int .u32 x.f1.f2, .int .u32 x.f2, .int .u32 x.f3, .int .u32 x.f4] := ⟨[.int .i64 x.f0], [.int .i64 x.f1.f0, .int .i64 x.f1.f1, .int .u32 x.f1.f2, .int .u32 x.f2, .int .u32 x.f3, .int .u32 x.f4], rfl, rfl, ⟨[.int .i64 x.f1.f0, .int .i64 x.f1.f1, .int .u32 x.f1.f2], [.int .u32 x.f2, .int .u32 x.f3, .int .u32 x.f4], rfl, (k100_mkM w base ok x.f1 ), ⟨[.int .u32 x.f2], [.int .u32 x.f3, .int .u32 x.f4], rfl, rfl, ⟨[.int .u32 x.f3], [.int .u32 x.f4], rfl, rfl, rfl⟩⟩⟩⟩
/-! #### struct type 107 -/
structure S107 where
 f0 : Int
 f1 : Int
 f2 : (List Int)
def z107 : S107 := ⟨(0 : Int), (0 : Int), ([] : List Int)⟩
def k107 : Kd S107 := Kd.iso (Kd.pair (Kd.int .i64) (Kd.pair (Kd.int .i64) (Kd.slice 3 (Kd.int .i64)))) (fun x : S107 => (x.f0, x.f1, x.f2))
theorem k107_open {w : World} {x : S107} {cs : List Value} (h : k107.K w x cs) : ∃ A2 c2, cs = [.int .i64 x.f0, .int .i64 x.f1, .slice A2 x.f2.length c2] ∧ x.f2.length ≤ c2 ∧ (Kd.int .i64).C w A2 x.f2.length x.f2 := by
 obtain ⟨_, _, rfl, rfl, ⟨_, _, rfl, rfl, ⟨A2, c2, rfl, l2, g2⟩⟩⟩ := h
 exact ⟨A2, c2, rfl, l2, g2⟩
theorem k107_mkM (w : World) (base : Nat) (ok : Nat → Prop) (x : S107) {v2 : Value} (g2 : (Kd.int .i64).R 3 w base ok v2 x.f2) : k107.M w base ok x [.int .i64 x.f0, .int .i64 x.f1, v2] := ⟨[.int .i64 x.f0], [.int .i64 x.f1, v2], rfl, rfl, ⟨[.int .i64 x.f1], [v2], rfl, rfl, ⟨v2, rfl, g2⟩⟩⟩
/-! #### struct type 113 -/
structure S113 where
 f0 : Int
 f1 : Int
 f2 : Int
 f3 : Int
 f4 : Int
 f5 : S100
def z113 : S113 := ⟨(0 : Int), (0 : Int), (0 : Int), (0 : Int), (0 : Int), z100⟩
def k113 : Kd S113 := Kd.iso (Kd.pair (Kd.int .i64) (Kd.pair (Kd.int .i64) (Kd.pair (Kd.int .i64) (Kd.pair (Kd.int .u64) (Kd.pair (Kd.int .i64) k100))))) (fun x : S113 => (x.f0, x.f1, x.f2, x.f3, x.f4, x.f5))
theorem k113_open {w : World} {x : S113} {cs : List Value} (h : k113.K w x cs) : cs = [.int .i64 x.f0, .int .i64 x.f1, .int .i64 x.f2, .int .u64 x.f3, .int .i64 x.f4, .int .i64 x.f5.f0, .int .i64 x.f5.f1, .int .u32 x.f5.f2] := by
 obtain ⟨_, _, rfl, rfl, ⟨_, _, rfl, rfl, ⟨_, _, rfl, rfl, ⟨_, _, rfl, rfl, ⟨_, _, rfl, rfl, s5⟩⟩⟩⟩⟩ := h
 obtain rfl := k100_open s5
 exact rfl
theorem k113_mkM (w : World) (base : Nat) (ok : Nat → Prop) (x : S113)  : k113.M w base ok x [.int .i64 x.f0, .int .i64 x.f1, .int .i64 x.f2, .int .u64 x.f3, .int .i64 x.f4, .int .i64 x.f5.f0, .int .i64 x.f5.f1, .int .u32 x.f5.f2] := ⟨[.int .i64 x.f0], [.int .i64 x.f1, .int .i64 x.f2, .int .u64 x.f3, .int .i64 x.f4, .int .i64 x.f5.f0, .int .i64 x.f5.f1, .int .u32 x.f5.f2], rfl, rfl, ⟨[.int .i64 x.f1], [.int .i64 x.f2, .int .u64 x.f3, .int .i64 x.f4, .int .i64 x.f5.f0, .int .i64 x.f5.f1, .int .u32 x.f5.f2], rfl, rfl, ⟨[.int .i64 x.f2], [.int .u64 x.f3, .int .i64 x.f4, .int .i64 x.f5.f0, .int .i64 x.f5.f1, .int .u32 x.f5.f2], rfl, rfl, ⟨[.int .u64 x.f3], [.int .i64 x.f4, .int .i64 x.f5.f0, .int .i64 x.f5.f1, .int .u32 x.f5.f2], rfl, rfl, ⟨[.int .i64 x.f4], [.int .i64 x.f5.f0, .int .i64 x.f5.f1, .int .u32 x.f5.f2], rfl, rfl, (k100_mkM w base ok x.f5 )⟩⟩⟩⟩⟩
def rd_L14 (xs : List (List Int)) (i : Int) : (List Int) := xs.getD i.toNat ([] : List Int)
theorem at_L14 {w : World} {A : Option Addr} {n : Nat} {xs : List (List Int)} (h : Kd.C (Kd.slice 5 (Kd.int .u8)) w A n xs) (i : Int) (h0 : 0 ≤ i) (h1 : i < n) : ∃ ad A0 c0, A = some ad ∧ w.cell? (ad.add i.toNat) = some (.slice A0 (rd_L14 xs i).length c0) ∧ (rd_L14 xs i).length ≤ c0 ∧ (Kd.int .u8).C w A0 (rd_L14 xs i).length (rd_L14 xs i) := by
 obtain ⟨ad, c, e, _, hK, hc0⟩ := Kd.C_get h ([] : List Int) i h0 h1
 have hc : ∀ j u, c[j]? = some u → w.cell? (ad.add (i.toNat * 1 + j)) = some u := hc0
 obtain ⟨A0, c0, rfl, l0, g0⟩ := hK
 exact ⟨ad, A0, c0, e, by have hq := hc 0 _ rfl; rwa [Nat.mul_one, Nat.add_zero] at hq, l0, g0⟩

end Go.Proofs.Ytbgcemijihpakaa.XA
end
section
namespace Go.Proofs.Ytbgcemijihpakaa.Open
set_option linter.unusedVariables false
set_option linter.unusedSimpArgs false
open Go.RowKit Go.Proofs.YtbgcemijihpakaaW.PrintWords

/-- data of type t is read by d: what is read is ok; if no weight is too great, sized; and its bulk is below the data's. -/
structure Opn {α : Type} (P : Program) (t : TypeId) (d : Kd α) (ok sz : α → Prop) (wt : α → Nat) : Prop where
 cells : P.cellsOf t = d.sz
 pos : ∀ a, 1 ≤ wt a
 read : ∀ {H : Type} {enc : TypeId × Value → H} {w : World} {base : Nat} {spare : Nat → Bool} {held : Bool} {fuel : Nat} {cs : List Value} {x : DataW H × List MemPlace}, DataW.trod enc P w base spare held fuel t cs = some x →
  ∃ a, d.K w a cs ∧ ok a ∧ ((∀ n ∈ x.1.weights P t, n ≤ reachBytes) → sz a) ∧ wt a ≤ Rows.uptoBulk x.1
theorem Opn.int {P : Program} {t : TypeId} {k : IntKind} (h : P.underlying t = some (.int k)) (hc : P.cellsOf t = 1) : Opn P t (Kd.int k) (fun n => (Lit.int k n).wf = true) (fun _ => True) (fun _ => 1) where
 cells := hc
 pos := fun _ => Nat.le_refl _
 read := by
  intro H enc w base spare held fuel cs x hx
  obtain ⟨n, rfl, rfl, hw⟩ := DataW.trod_int h hx
  exact ⟨n, rfl, hw, fun _ => trivial, by simp [Rows.uptoBulk]⟩
theorem Opn.bool {P : Program} {t : TypeId} (h : P.underlying t = some .bool) (hc : P.cellsOf t = 1) : Opn P t Kd.bool (fun _ => True) (fun _ => True) (fun _ => 1) where
 cells := hc
 pos := fun _ => Nat.le_refl _
 read := by
  intro H enc w base spare held fuel cs x hx
  obtain ⟨n, rfl, rfl⟩ := DataW.trod_bool h hx
  exact ⟨n, rfl, trivial, fun _ => trivial, by simp [Rows.uptoBulk]⟩
theorem Opn.string {P : Program} {t : TypeId} (h : P.underlying t = some .string) (hc : P.cellsOf t = 1) : Opn P t Kd.string (fun _ => True) (fun s => s.size ≤ reachBytes) (fun s => s.size + 1) where
 cells := hc
 pos := fun _ => Nat.le_add_left _ _
 read := by
  intro H enc w base spare held fuel cs x hx
  obtain ⟨s, rfl, rfl, hs⟩ := DataW.trod_string h hx
  refine ⟨s, rfl, trivial, fun hn => ?_, ?_⟩
  ·have := hn s.data.toList.length (by simp [DataW.weights])
   simpa using this
  ·have e : s.data.size = s.size := rfl
   simp only [Rows.uptoBulk, Array.length_toList]
   omega

theorem choose {α : Type} {Q : Nat → α → Prop} : ∀ n, (∀ i, i < n → ∃ a, Q i a) → ∃ xs : List α, xs.length = n ∧ ∀ i a, xs[i]? = some a → Q i a
 | 0, _ => ⟨[], rfl, by simp⟩
 | n + 1, h => by
  obtain ⟨xs, hl, hq⟩ := choose n (fun i hi => h i (by omega))
  obtain ⟨a, ha⟩ := h n (by omega)
  refine ⟨xs ++ [a], by simp [hl], fun i b hb => ?_⟩
  rcases Nat.lt_or_ge i n with hi | hi
  ·rw [List.getElem?_append_left (by omega)] at hb
   exact hq i b hb
  ·rw [List.getElem?_append_right (by omega), hl] at hb
   rcases Nat.eq_or_lt_of_le hi with rfl | hi
   ·simp at hb
    exact hb ▸ ha
   ·rw [List.getElem?_eq_none (by simp; omega)] at hb
    cases hb
theorem bulk_sum {α H : Type} {wt : α → Nat} : ∀ (xs : List α) (es : List (DataW H × List MemPlace)), xs.length = es.length → (∀ (i : Nat) (a : α) (e : DataW H × List MemPlace), xs[i]? = some a → es[i]? = some e → wt a ≤ Rows.uptoBulk e.1) → (xs.map wt).sum ≤ Rows.uptoBulkAll (es.map (·.1))
 | [], es, _, _ => Nat.zero_le _
 | a :: xs, [], h, _ => by simp at h
 | a :: xs, e :: es, h, hq => by
  have h1 := bulk_sum xs es (by simpa using h) (fun i b f hb hf => hq (i + 1) b f (by simpa using hb) (by simpa using hf))
  have h2 := hq 0 a e rfl rfl
  simp only [List.map_cons, List.sum_cons, Rows.uptoBulkAll]
  omega
theorem weights_mem {H : Type} {P : Program} {e : TypeId} : ∀ (es : List (DataW H)) (i : Nat) (d : DataW H), es[i]? = some d → ∀ n ∈ d.weights P e, n ∈ DataW.weightsAll P e es
 | [], i, d, h => by simp at h
 | c :: es, 0, d, h => by
  simp at h
  subst h
  intro n hn
  simp only [DataW.weightsAll, List.mem_append]
  exact .inl hn
 | c :: es, i + 1, d, h => by
  intro n hn
  simp only [DataW.weightsAll, List.mem_append]
  exact .inr (weights_mem es i d (by simpa using h) n hn)

theorem Opn.slice {α : Type} {P : Program} {t e : TypeId} {d : Kd α} {ok sz : α → Prop} {wt : α → Nat} (E : Nat) (h : Opn P e d ok sz wt) (ht : P.underlying t = some (.slice e)) (hc : P.cellsOf t = 1) :
  Opn P t (Kd.slice E d) (fun xs => ∀ x ∈ xs, ok x) (fun xs => xs.length * P.bytesOf e ≤ reachBytes ∧ ∀ x ∈ xs, sz x) (fun xs => (xs.map wt).sum + 1) where
 cells := hc
 pos := fun _ => Nat.le_add_left _ _
 read := by
  intro H enc w base spare held fuel cs x hx
  rcases DataW.trod_slice ht hx with ⟨rfl, rfl⟩ | ⟨a, len, cap, elems, rest, n, rfl, rfl, rfl, hb, hl, hcap, hel, hat, _, _⟩
  ·exact ⟨[], ⟨none, 0, rfl, Nat.le_refl _, Kd.C_nil d w⟩, by simp, fun _ => by simp, by simp [Rows.uptoBulk]⟩
  ·have hex : ∀ i, i < len → ∃ p : α, ∃ c y, w.cells? base (a.add (i * P.cellsOf e)) (P.cellsOf e) = some c ∧ elems[i]? = some y ∧ d.K w p c ∧ ok p ∧ ((∀ n ∈ y.1.weights P e, n ≤ reachBytes) → sz p) ∧ wt p ≤ Rows.uptoBulk y.1 := by
    intro i hi
    have h1 := hat i hi
    rw [List.getElem?_eq_getElem (by omega)] at h1
    rw [Option.bind_eq_some_iff] at h1
    obtain ⟨c, hc1, hc2⟩ := h1
    obtain ⟨p, hp1, hp2, hp3, hp4⟩ := h.read hc2
    exact ⟨p, c, elems[i], hc1, List.getElem?_eq_getElem (by omega), hp1, hp2, hp3, hp4⟩
   obtain ⟨xs, hxl, hxq⟩ := choose len hex
   have hcells := h.cells
   refine ⟨xs, ⟨some a, cap, by rw [hxl], by omega, ⟨rfl, by rw [hxl]; simp only [maxLen] at hcap; omega, fun hp => ⟨a, rfl, fun j p hj => ?_⟩⟩⟩, fun p hp => ?_, fun hw => ⟨?_, fun p hp => ?_⟩, ?_⟩
   ·obtain ⟨c, y, hc1, hy, hk, _⟩ := hxq j p hj
    obtain ⟨_, hcl, hcc⟩ := World.cells?_some hc1
    refine ⟨c, by rw [hcl, hcells], hk, fun i u hu => ?_⟩
    have hi : i < P.cellsOf e := by rw [← hcl]; exact (List.getElem?_eq_some_iff.mp hu).1
    have h2 := hcc i hi
    rw [hu] at h2
    rw [add_add, hcells] at h2
    exact h2
   ·obtain ⟨i, hi⟩ := List.mem_iff_getElem?.mp hp
    obtain ⟨_, _, _, _, _, h1, _⟩ := hxq i p hi
    exact h1
   ·have := hw ((elems.length + rest.length) * P.bytesOf e) (by simp [DataW.weights, ht])
    refine Nat.le_trans (Nat.mul_le_mul_right _ ?_) this
    omega
   ·obtain ⟨i, hi⟩ := List.mem_iff_getElem?.mp hp
    obtain ⟨_, y, _, hy, _, _, h1, _⟩ := hxq i p hi
    refine h1 fun n hn => hw n ?_
    simp only [DataW.weights, ht, List.mem_cons, List.mem_append]
    exact .inr (.inl (weights_mem _ i y.1 (by simp [hy]) n hn))
   ·have h1 := bulk_sum (wt := wt) xs elems (by omega) (fun i a e ha he => by
     obtain ⟨_, y, _, hy, _, _, _, h2⟩ := hxq i a ha
     rw [hy] at he
     injection he with he
     exact he ▸ h2)
    simp only [Rows.uptoBulk]
    omega

/-- the fields of a struct from one on, read by d. -/
structure Fld {α : Type} (P : Program) (fs : List Field) (o : Nat) (d : Kd α) (ok sz : α → Prop) (wt : α → Nat) : Prop where
 read : ∀ {H : Type} {enc : TypeId × Value → H} {w : World} {base : Nat} {spare : Nat → Bool} {held : Bool} {fuel : Nat} {cs : List Value} {xs : List (DataW H × List MemPlace)}, cs.length = o + d.sz → xs.length = fs.length → (∀ (i : Nat) f, fs[i]? = some f → DataW.trod enc P w base spare held fuel f.type ((cs.drop f.offset).take (P.cellsOf f.type)) = xs[i]?) →
  ∃ a, d.K w a (cs.drop o) ∧ ok a ∧ ((∀ n ∈ DataW.weightsEach P (fs.map (·.type)) (xs.map (·.1)), n ≤ reachBytes) → sz a) ∧ wt a ≤ Rows.uptoBulkAll (xs.map (·.1))
theorem Fld.one {α : Type} {P : Program} {f : Field} {o : Nat} {d : Kd α} {ok sz : α → Prop} {wt : α → Nat} (h : Opn P f.type d ok sz wt) (ho : f.offset = o) : Fld P [f] o d ok sz wt where
 read := by
  intro H enc w base spare held fuel cs xs hl hx hat
  match xs, hx with
  | [x], _ =>
   have h1 := hat 0 f rfl
   obtain ⟨a, h2, h3, h4, h5⟩ := h.read h1
   have hc := h.cells
   rw [ho, List.take_of_length_le (by rw [List.length_drop]; omega)] at h2
   refine ⟨a, h2, h3, fun hn => h4 fun n hm => hn n ?_, ?_⟩
   ·simp [DataW.weightsEach]
    exact hm
   ·simp [Rows.uptoBulkAll]
    omega
theorem Fld.cons {α β : Type} {P : Program} {f : Field} {fs : List Field} {o o' : Nat} {d : Kd α} {d' : Kd β} {ok sz : α → Prop} {wt : α → Nat} {ok' sz' : β → Prop} {wt' : β → Nat} (h : Opn P f.type d ok sz wt) (ho : f.offset = o) (hs : o' = o + d.sz) (r : Fld P fs o' d' ok' sz' wt') :
  Fld P (f :: fs) o (Kd.pair d d') (fun p => ok p.1 ∧ ok' p.2) (fun p => sz p.1 ∧ sz' p.2) (fun p => wt p.1 + wt' p.2) where
 read := by
  intro H enc w base spare held fuel cs xs hl hx hat
  match xs, hx with
  | x :: xs, hx =>
   have hl2 : cs.length = o + (d.sz + d'.sz) := hl
   clear hl
   have hl3 : cs.length = o' + d'.sz := by omega
   have h1 := hat 0 f rfl
   obtain ⟨a, h2, h3, h4, h5⟩ := h.read h1
   obtain ⟨b, h6, h7, h8, h9⟩ := r.read hl3 (by simpa using hx) (fun i g hg => by have := hat (i + 1) g (by simpa using hg); simpa using this)
   have hc := h.cells
   rw [ho] at h2
   refine ⟨(a, b), ⟨_, _, ?_, h2, h6⟩, ⟨h3, h7⟩, fun hn => ⟨h4 fun n hm => hn n ?_, h8 fun n hm => hn n ?_⟩, ?_⟩
   ·rw [hs, hc, ← List.drop_drop, List.take_append_drop]
   ·simp only [List.map_cons, DataW.weightsEach, List.mem_append]
    exact .inl hm
   ·simp only [List.map_cons, DataW.weightsEach, List.mem_append]
    exact .inr hm
   ·simp only [List.map_cons, Rows.uptoBulkAll]
    omega
theorem Opn.struct {α : Type} {P : Program} {t : TypeId} {fs : Array Field} {d : Kd α} {ok sz : α → Prop} {wt : α → Nat} (ht : P.underlying t = some (.struct fs)) (hc : P.cellsOf t = d.sz) (h : Fld P fs.toList 0 d ok sz wt) :
  Opn P t d ok sz (fun a => wt a + 1) where
 cells := hc
 pos := fun _ => Nat.le_add_left _ _
 read := by
  intro H enc w base spare held fuel cs x hx
  obtain ⟨xs, n, rfl, rfl, hl, hxl, hat⟩ := DataW.trod_struct ht hx
  obtain ⟨a, h1, h2, h3, h4⟩ := h.read (cs := cs) (xs := xs) (by omega) (by simpa using hxl) (fun i f hf => hat i f (by simpa using hf))
  refine ⟨a, by simpa using h1, h2, fun hn => h3 fun n hm => hn n ?_, ?_⟩
  ·simp only [DataW.weights, ht]
   exact hm
  ·simp only [Rows.uptoBulk]
   omega
theorem Opn.map {α β : Type} {P : Program} {t : TypeId} {d : Kd α} {ok sz : α → Prop} {wt : α → Nat} (h : Opn P t d ok sz wt) (f : α → β) (d' : Kd β) (hs : d.sz = d'.sz) (hK : ∀ w a cs, d.K w a cs → d'.K w (f a) cs) (ok' sz' : β → Prop) (wt' : β → Nat)
  (h1 : ∀ a, ok a → ok' (f a)) (h2 : ∀ a, sz a → sz' (f a)) (h3 : ∀ a, wt' (f a) ≤ wt a) (h4 : ∀ b, 1 ≤ wt' b) : Opn P t d' ok' sz' wt' where
 cells := h.cells.trans hs
 pos := h4
 read := by
  intro H enc w base spare held fuel cs x hx
  obtain ⟨a, k1, k2, k3, k4⟩ := h.read hx
  exact ⟨f a, hK _ _ _ k1, h1 _ k2, fun hn => h2 _ (k3 hn), Nat.le_trans (h3 a) k4⟩
end Go.Proofs.Ytbgcemijihpakaa.Open
end
