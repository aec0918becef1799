/- a configuration as package class reads it: eighteen cells, eight lists; elements and their cells; structs loaded whole. -/
import Derived.Test.YthckjbmgeidkgaaDoorHOpnC
import Derived.Maps.OwnSet
import Derived.Maps.OwnOps
import Derived.Maps.Views
import Derived.Lib.Hide
namespace Go.Proofs.YthckjbmgeidkgaaDoor.XA
set_option linter.unusedVariables false
set_option linter.unusedSimpArgs false
open Go.RowKit Go.WideMaps Go.Maps Go.Proofs.YthckjbmgeidkgaaDoorW.PrintWords Go.Proofs.YthckjbmgeidkgaaDoorW.PrintLast Go.Proofs.YthckjbmgeidkgaaDoorW.PrintMore
/-- where the lists lie -/
structure CV where
  (a10 a11 a12 a13 a14 a15 a16 a17 : Option Addr) (k10 k11 k12 k13 k14 k15 k16 k17 : Nat)
def arr (V : CV) (c : S33) : Array Value := #[.string c.f0, .string c.f1.f0, .bool c.f1.f1, .bool c.f1.f2, .bool c.f1.f3, .bool c.f1.f4, .bool c.f1.f5, .bool c.f1.f6, .bool c.f1.f7, .bool c.f1.f8, .slice V.a10 c.f2.length V.k10, .slice V.a11 c.f3.length V.k11, .slice V.a12 c.f4.length V.k12, .slice V.a13 c.f5.length V.k13, .slice V.a14 c.f6.length V.k14, .slice V.a15 c.f7.length V.k15, .slice V.a16 c.f8.length V.k16, .slice V.a17 c.f9.length V.k17]
/-- the lists are not greater than what may be handed in -/
structure Bd (c : S33) : Prop where
  m : c.f2.length ≤ 8796093022208
  t : c.f3.length ≤ 8796093022208
  r : c.f4.length ≤ 8796093022208
  e : c.f5.length ≤ 8796093022208
  x : c.f6.length ≤ 8796093022208
  a : c.f7.length ≤ 8796093022208
  i : c.f8.length ≤ 8796093022208
  g : c.f9.length ≤ 8796093022208
  ii : ∀ x ∈ c.f8, x.f3.length ≤ 17592186044416 ∧ x.f4.length ≤ 17592186044416
/-- the lists are read -/
structure Cf (w : World) (V : CV) (c : S33) : Prop where
  bd : Bd c
  ml : c.f2.length ≤ V.k10
  m : Kd.string.C w V.a10 c.f2.length c.f2
  tl : c.f3.length ≤ V.k11
  t : k49.C w V.a11 c.f3.length c.f3
  rl : c.f4.length ≤ V.k12
  r : k65.C w V.a12 c.f4.length c.f4
  el : c.f5.length ≤ V.k13
  e : k53.C w V.a13 c.f5.length c.f5
  xl : c.f6.length ≤ V.k14
  x : k62.C w V.a14 c.f6.length c.f6
  al : c.f7.length ≤ V.k15
  a : k60.C w V.a15 c.f7.length c.f7
  il : c.f8.length ≤ V.k16
  i : k55.C w V.a16 c.f8.length c.f8
  gl : c.f9.length ≤ V.k17
  g : k91.C w V.a17 c.f9.length c.f9
theorem Cf.below {w w1 : World} {V : CV} {c : S33} (h : Cf w V c) (hB : Below w.heap.size w w1) : Cf w1 V c := ⟨h.bd, h.ml, Kd.C_below h.m hB, h.tl, Kd.C_below h.t hB, h.rl, Kd.C_below h.r hB, h.el, Kd.C_below h.e hB, h.xl, Kd.C_below h.x hB, h.al, Kd.C_below h.a hB, h.il, Kd.C_below h.i hB, h.gl, Kd.C_below h.g hB⟩
/-- the configuration in a box -/
structure At (w : World) (B : Nat) (V : CV) (c : S33) : Prop where
  box : w.heap[B]? = some (.cells (arr V c) 33 (0, 0))
  cf : Cf w V c
theorem At.lt {w : World} {B : Nat} {V : CV} {c : S33} (h : At w B V c) : B < w.heap.size := blk_lt h.box
theorem At.below {w w1 : World} {B : Nat} {V : CV} {c : S33} (h : At w B V c) (hB : Below w.heap.size w w1) : At w1 B V c := ⟨(hB.block B h.lt).trans h.box, h.cf.below hB⟩
theorem At.made {w : World} {V : CV} {c : S33} (h : Cf w V c) : At (w.alloc (.cells (arr V c) 33)) w.heap.size V c := ⟨heap_alloc_new w _, h.below ((Below.refl _ _).alloc (Nat.le_refl _) _)⟩
theorem At.cell {w : World} {B : Nat} {V : CV} {c : S33} (h : At w B V c) (k : Nat) : w.cell? ⟨B, k, none⟩ = (arr V c)[k]? := by
  have := h.box
  simp only [World.cell?, this]
  simp
theorem At.cell0 {w : World} {B : Nat} {V : CV} {c : S33} (h : At w B V c) : w.cell? ⟨B, 0, none⟩ = some (.string c.f0) := h.cell 0
theorem At.cell1 {w : World} {B : Nat} {V : CV} {c : S33} (h : At w B V c) : w.cell? ⟨B, 1, none⟩ = some (.string c.f1.f0) := h.cell 1
theorem At.cell10 {w : World} {B : Nat} {V : CV} {c : S33} (h : At w B V c) : w.cell? ⟨B, 10, none⟩ = some (.slice V.a10 c.f2.length V.k10) := h.cell 10
theorem At.cell11 {w : World} {B : Nat} {V : CV} {c : S33} (h : At w B V c) : w.cell? ⟨B, 11, none⟩ = some (.slice V.a11 c.f3.length V.k11) := h.cell 11
theorem At.cell12 {w : World} {B : Nat} {V : CV} {c : S33} (h : At w B V c) : w.cell? ⟨B, 12, none⟩ = some (.slice V.a12 c.f4.length V.k12) := h.cell 12
theorem At.cell13 {w : World} {B : Nat} {V : CV} {c : S33} (h : At w B V c) : w.cell? ⟨B, 13, none⟩ = some (.slice V.a13 c.f5.length V.k13) := h.cell 13
theorem At.cell14 {w : World} {B : Nat} {V : CV} {c : S33} (h : At w B V c) : w.cell? ⟨B, 14, none⟩ = some (.slice V.a14 c.f6.length V.k14) := h.cell 14
theorem At.cell15 {w : World} {B : Nat} {V : CV} {c : S33} (h : At w B V c) : w.cell? ⟨B, 15, none⟩ = some (.slice V.a15 c.f7.length V.k15) := h.cell 15
theorem At.cell16 {w : World} {B : Nat} {V : CV} {c : S33} (h : At w B V c) : w.cell? ⟨B, 16, none⟩ = some (.slice V.a16 c.f8.length V.k16) := h.cell 16
theorem At.cell17 {w : World} {B : Nat} {V : CV} {c : S33} (h : At w B V c) : w.cell? ⟨B, 17, none⟩ = some (.slice V.a17 c.f9.length V.k17) := h.cell 17
theorem drew_below (w : World) : Below w.heap.size w w.drew := ⟨rfl, rfl, rfl, Nat.le_refl _, fun _ _ => rfl⟩
theorem drewN_below (w : World) (n : Nat) : Below w.heap.size w (w.drewN n) := ⟨rfl, rfl, rfl, Nat.le_refl _, fun _ _ => rfl⟩
/-! ### structs loaded whole -/
theorem load_agg {w : World} {t n : Nat} {a : Addr} {cs : List Value} (hag : ∀ w : World, (isAgg t).run Tryd.prog w = .ok true w) (hsz : ∀ w : World, (sizeOf t).run Tryd.prog w = .ok n w) (hn : cs.length = n) (h : ∀ j v, cs[j]? = some v → w.cell? (a.add j) = some v) :
    (Instr.loadAt t (.pointer (some a))).run Tryd.prog w = .ok (.agg cs.toArray) w := by
  subst hn
  have h1 := run_loadCells_list (P := Tryd.prog) w a cs h
  simp [Instr.loadAt, Instr.sureAddr, loadVar, hag, hsz, h1, Result.andThen]
section
variable {ops : Array Oper} {rest : List Oper} {o : Oper} {a : Act}
theorem agg33 (w : World) : (isAgg 33).run Tryd.prog w = .ok true w := by kernel_rfl
theorem size33 (w : World) : (sizeOf 33).run Tryd.prog w = .ok 18 w := by kernel_rfl
theorem run33 {w : World} {B : Nat} {V : CV} {c : S33} (hX : At w B V c) (y : Operand) (ho : o.op = .load 33 y) (hy : a.eval y = .pointer (some (⟨B, 0, none⟩ : Addr))) : (execOp a.eval o).run Tryd.prog w = .ok (.value (.agg #[.string c.f0, .string c.f1.f0, .bool c.f1.f1, .bool c.f1.f2, .bool c.f1.f3, .bool c.f1.f4, .bool c.f1.f5, .bool c.f1.f6, .bool c.f1.f7, .bool c.f1.f8, .slice V.a10 c.f2.length V.k10, .slice V.a11 c.f3.length V.k11, .slice V.a12 c.f4.length V.k12, .slice V.a13 c.f5.length V.k13, .slice V.a14 c.f6.length V.k14, .slice V.a15 c.f7.length V.k15, .slice V.a16 c.f8.length V.k16, .slice V.a17 c.f9.length V.k17])) w := by
  have hl := load_agg (w := w) (t := 33) (n := 18) (a := (⟨B, 0, none⟩ : Addr)) (cs := [.string c.f0, .string c.f1.f0, .bool c.f1.f1, .bool c.f1.f2, .bool c.f1.f3, .bool c.f1.f4, .bool c.f1.f5, .bool c.f1.f6, .bool c.f1.f7, .bool c.f1.f8, .slice V.a10 c.f2.length V.k10, .slice V.a11 c.f3.length V.k11, .slice V.a12 c.f4.length V.k12, .slice V.a13 c.f5.length V.k13, .slice V.a14 c.f6.length V.k14, .slice V.a15 c.f7.length V.k15, .slice V.a16 c.f8.length V.k16, .slice V.a17 c.f9.length V.k17]) agg33 size33 rfl (fun j v hj => by
    have e : (⟨B, 0, none⟩ : Addr).add j = ⟨B, j, none⟩ := by unfold Addr.add; split <;> simp_all
    rw [e, hX.cell j, ← hj]
    unfold arr
    simp)
  simp only [execOp, ho, hy]
  simp [hl, Result.andThen]
theorem load33 {Q : Exit → Act → World → Prop} {w : World} {B : Nat} {V : CV} {c : S33} (hX : At w B V c) (hgd : o.guard = none) (y : Operand) (ho : o.op = .load 33 y) (hy : a.eval y = .pointer (some (⟨B, 0, none⟩ : Addr))) (h : wpList Tryd.prog ops Q rest (a.put o.dst (.agg #[.string c.f0, .string c.f1.f0, .bool c.f1.f1, .bool c.f1.f2, .bool c.f1.f3, .bool c.f1.f4, .bool c.f1.f5, .bool c.f1.f6, .bool c.f1.f7, .bool c.f1.f8, .slice V.a10 c.f2.length V.k10, .slice V.a11 c.f3.length V.k11, .slice V.a12 c.f4.length V.k12, .slice V.a13 c.f5.length V.k13, .slice V.a14 c.f6.length V.k14, .slice V.a15 c.f7.length V.k15, .slice V.a16 c.f8.length V.k16, .slice V.a17 c.f9.length V.k17])) w) : wpList Tryd.prog ops Q (o :: rest) a w :=
  Kd.event_run hgd (v := .agg #[.string c.f0, .string c.f1.f0, .bool c.f1.f1, .bool c.f1.f2, .bool c.f1.f3, .bool c.f1.f4, .bool c.f1.f5, .bool c.f1.f6, .bool c.f1.f7, .bool c.f1.f8, .slice V.a10 c.f2.length V.k10, .slice V.a11 c.f3.length V.k11, .slice V.a12 c.f4.length V.k12, .slice V.a13 c.f5.length V.k13, .slice V.a14 c.f6.length V.k14, .slice V.a15 c.f7.length V.k15, .slice V.a16 c.f8.length V.k16, .slice V.a17 c.f9.length V.k17]) (run33 hX y ho hy) h
/-! ### task -/
structure At49 (w : World) (p : Addr) (t : S49) (A4 : Option Addr) (c4 : Nat) (A5 : Option Addr) (c5 : Nat) (A6 : Option Addr) (c6 : Nat) (A7 : Option Addr) (c7 : Nat) : Prop where
  cells : ∀ j v, [.string t.f0, .int .i64 t.f1, .bool t.f2, .int .i64 t.f3, .slice A4 t.f4.length c4, .slice A5 t.f5.length c5, .slice A6 t.f6.length c6, .slice A7 t.f7.length c7][j]? = some v → w.cell? (p.add j) = some v
theorem At49.below {w w1 : World} {p : Addr} {t : S49} {A4 : Option Addr} {c4 : Nat} {A5 : Option Addr} {c5 : Nat} {A6 : Option Addr} {c6 : Nat} {A7 : Option Addr} {c7 : Nat} (h : At49 w p t A4 c4 A5 c5 A6 c6 A7 c7) (hB : Below w.heap.size w w1) : At49 w1 p t A4 c4 A5 c5 A6 c6 A7 c7 := ⟨fun j v hj => (hB.cell (World.block_lt_of_cell? w _ (h.cells j v hj))).trans (h.cells j v hj)⟩
theorem At49.g0 {w : World} {p : Addr} {t : S49} {A4 : Option Addr} {c4 : Nat} {A5 : Option Addr} {c5 : Nat} {A6 : Option Addr} {c6 : Nat} {A7 : Option Addr} {c7 : Nat} (h : At49 w p t A4 c4 A5 c5 A6 c6 A7 c7) : w.cell? p = some (.string t.f0) := h.cells 0 _ rfl
theorem At49.g1 {w : World} {p : Addr} {t : S49} {A4 : Option Addr} {c4 : Nat} {A5 : Option Addr} {c5 : Nat} {A6 : Option Addr} {c6 : Nat} {A7 : Option Addr} {c7 : Nat} (h : At49 w p t A4 c4 A5 c5 A6 c6 A7 c7) : w.cell? ⟨p.block, p.off + 1, none⟩ = some (.int .i64 t.f1) := h.cells 1 _ rfl
theorem At49.g2 {w : World} {p : Addr} {t : S49} {A4 : Option Addr} {c4 : Nat} {A5 : Option Addr} {c5 : Nat} {A6 : Option Addr} {c6 : Nat} {A7 : Option Addr} {c7 : Nat} (h : At49 w p t A4 c4 A5 c5 A6 c6 A7 c7) : w.cell? ⟨p.block, p.off + 2, none⟩ = some (.bool t.f2) := h.cells 2 _ rfl
theorem At49.g3 {w : World} {p : Addr} {t : S49} {A4 : Option Addr} {c4 : Nat} {A5 : Option Addr} {c5 : Nat} {A6 : Option Addr} {c6 : Nat} {A7 : Option Addr} {c7 : Nat} (h : At49 w p t A4 c4 A5 c5 A6 c6 A7 c7) : w.cell? ⟨p.block, p.off + 3, none⟩ = some (.int .i64 t.f3) := h.cells 3 _ rfl
theorem At49.g4 {w : World} {p : Addr} {t : S49} {A4 : Option Addr} {c4 : Nat} {A5 : Option Addr} {c5 : Nat} {A6 : Option Addr} {c6 : Nat} {A7 : Option Addr} {c7 : Nat} (h : At49 w p t A4 c4 A5 c5 A6 c6 A7 c7) : w.cell? ⟨p.block, p.off + 4, none⟩ = some (.slice A4 t.f4.length c4) := h.cells 4 _ rfl
theorem At49.g5 {w : World} {p : Addr} {t : S49} {A4 : Option Addr} {c4 : Nat} {A5 : Option Addr} {c5 : Nat} {A6 : Option Addr} {c6 : Nat} {A7 : Option Addr} {c7 : Nat} (h : At49 w p t A4 c4 A5 c5 A6 c6 A7 c7) : w.cell? ⟨p.block, p.off + 5, none⟩ = some (.slice A5 t.f5.length c5) := h.cells 5 _ rfl
theorem At49.g6 {w : World} {p : Addr} {t : S49} {A4 : Option Addr} {c4 : Nat} {A5 : Option Addr} {c5 : Nat} {A6 : Option Addr} {c6 : Nat} {A7 : Option Addr} {c7 : Nat} (h : At49 w p t A4 c4 A5 c5 A6 c6 A7 c7) : w.cell? ⟨p.block, p.off + 6, none⟩ = some (.slice A6 t.f6.length c6) := h.cells 6 _ rfl
theorem At49.g7 {w : World} {p : Addr} {t : S49} {A4 : Option Addr} {c4 : Nat} {A5 : Option Addr} {c5 : Nat} {A6 : Option Addr} {c6 : Nat} {A7 : Option Addr} {c7 : Nat} (h : At49 w p t A4 c4 A5 c5 A6 c6 A7 c7) : w.cell? ⟨p.block, p.off + 7, none⟩ = some (.slice A7 t.f7.length c7) := h.cells 7 _ rfl
theorem agg49 (w : World) : (isAgg 49).run Tryd.prog w = .ok true w := by kernel_rfl
theorem size49 (w : World) : (sizeOf 49).run Tryd.prog w = .ok 8 w := by kernel_rfl
theorem run49 {w : World} {p : Addr} {t : S49} {A4 : Option Addr} {c4 : Nat} {A5 : Option Addr} {c5 : Nat} {A6 : Option Addr} {c6 : Nat} {A7 : Option Addr} {c7 : Nat} (hX : At49 w p t A4 c4 A5 c5 A6 c6 A7 c7) (y : Operand) (ho : o.op = .load 49 y) (hy : a.eval y = .pointer (some p)) : (execOp a.eval o).run Tryd.prog w = .ok (.value (.agg #[.string t.f0, .int .i64 t.f1, .bool t.f2, .int .i64 t.f3, .slice A4 t.f4.length c4, .slice A5 t.f5.length c5, .slice A6 t.f6.length c6, .slice A7 t.f7.length c7])) w := by
  have hl := load_agg (w := w) (t := 49) (n := 8) (a := p) (cs := [.string t.f0, .int .i64 t.f1, .bool t.f2, .int .i64 t.f3, .slice A4 t.f4.length c4, .slice A5 t.f5.length c5, .slice A6 t.f6.length c6, .slice A7 t.f7.length c7]) agg49 size49 rfl hX.cells
  simp only [execOp, ho, hy]
  simp [hl, Result.andThen]
theorem load49 {Q : Exit → Act → World → Prop} {w : World} {p : Addr} {t : S49} {A4 : Option Addr} {c4 : Nat} {A5 : Option Addr} {c5 : Nat} {A6 : Option Addr} {c6 : Nat} {A7 : Option Addr} {c7 : Nat} (hX : At49 w p t A4 c4 A5 c5 A6 c6 A7 c7) (hgd : o.guard = none) (y : Operand) (ho : o.op = .load 49 y) (hy : a.eval y = .pointer (some p)) (h : wpList Tryd.prog ops Q rest (a.put o.dst (.agg #[.string t.f0, .int .i64 t.f1, .bool t.f2, .int .i64 t.f3, .slice A4 t.f4.length c4, .slice A5 t.f5.length c5, .slice A6 t.f6.length c6, .slice A7 t.f7.length c7])) w) : wpList Tryd.prog ops Q (o :: rest) a w :=
  Kd.event_run hgd (v := .agg #[.string t.f0, .int .i64 t.f1, .bool t.f2, .int .i64 t.f3, .slice A4 t.f4.length c4, .slice A5 t.f5.length c5, .slice A6 t.f6.length c6, .slice A7 t.f7.length c7]) (run49 hX y ho hy) h
theorem task_at {w : World} {A : Option Addr} {xs : List S49} (h : k49.C w A xs.length xs) (k : Nat) (hk : k < xs.length) : ∃ t ad A4 c4 A5 c5 A6 c6 A7 c7, xs.getD k z49 = t ∧ A = some ad ∧ At49 w (ad.add (k * 8)) t A4 c4 A5 c5 A6 c6 A7 c7 ∧ t.f4.length ≤ c4 ∧ (Kd.int .i64).C w A4 t.f4.length t.f4 ∧ t.f5.length ≤ c5 ∧ (Kd.int .i64).C w A5 t.f5.length t.f5 ∧ t.f6.length ≤ c6 ∧ (Kd.int .i64).C w A6 t.f6.length t.f6 ∧ t.f7.length ≤ c7 ∧ (Kd.int .i64).C w A7 t.f7.length t.f7 := by
  obtain ⟨ad, c, e, _, hK, hc0⟩ := Kd.C_get h z49 (k : Int) (by omega) (by omega)
  rw [Int.toNat_natCast] at hK hc0
  obtain ⟨A4, c4, A5, c5, A6, c6, A7, c7, rfl, l4, g4, l5, g5, l6, g6, l7, g7⟩ := k49_open hK
  exact ⟨_, ad, A4, c4, A5, c5, A6, c6, A7, c7, rfl, e, ⟨fun j v hj => by rw [add_add]; exact hc0 j v hj⟩, l4, g4, l5, g5, l6, g6, l7, g7⟩
/-! ### res -/
structure At65 (w : World) (p : Addr) (t : S65) : Prop where
  cells : ∀ j v, [.string t.f0, .int .i64 t.f1, .int .i64 t.f2][j]? = some v → w.cell? (p.add j) = some v
theorem At65.below {w w1 : World} {p : Addr} {t : S65} (h : At65 w p t) (hB : Below w.heap.size w w1) : At65 w1 p t := ⟨fun j v hj => (hB.cell (World.block_lt_of_cell? w _ (h.cells j v hj))).trans (h.cells j v hj)⟩
theorem At65.g0 {w : World} {p : Addr} {t : S65} (h : At65 w p t) : w.cell? p = some (.string t.f0) := h.cells 0 _ rfl
theorem At65.g1 {w : World} {p : Addr} {t : S65} (h : At65 w p t) : w.cell? ⟨p.block, p.off + 1, none⟩ = some (.int .i64 t.f1) := h.cells 1 _ rfl
theorem At65.g2 {w : World} {p : Addr} {t : S65} (h : At65 w p t) : w.cell? ⟨p.block, p.off + 2, none⟩ = some (.int .i64 t.f2) := h.cells 2 _ rfl
theorem agg65 (w : World) : (isAgg 65).run Tryd.prog w = .ok true w := by kernel_rfl
theorem size65 (w : World) : (sizeOf 65).run Tryd.prog w = .ok 3 w := by kernel_rfl
theorem run65 {w : World} {p : Addr} {t : S65} (hX : At65 w p t) (y : Operand) (ho : o.op = .load 65 y) (hy : a.eval y = .pointer (some p)) : (execOp a.eval o).run Tryd.prog w = .ok (.value (.agg #[.string t.f0, .int .i64 t.f1, .int .i64 t.f2])) w := by
  have hl := load_agg (w := w) (t := 65) (n := 3) (a := p) (cs := [.string t.f0, .int .i64 t.f1, .int .i64 t.f2]) agg65 size65 rfl hX.cells
  simp only [execOp, ho, hy]
  simp [hl, Result.andThen]
theorem load65 {Q : Exit → Act → World → Prop} {w : World} {p : Addr} {t : S65} (hX : At65 w p t) (hgd : o.guard = none) (y : Operand) (ho : o.op = .load 65 y) (hy : a.eval y = .pointer (some p)) (h : wpList Tryd.prog ops Q rest (a.put o.dst (.agg #[.string t.f0, .int .i64 t.f1, .int .i64 t.f2])) w) : wpList Tryd.prog ops Q (o :: rest) a w :=
  Kd.event_run hgd (v := .agg #[.string t.f0, .int .i64 t.f1, .int .i64 t.f2]) (run65 hX y ho hy) h
theorem res_at {w : World} {A : Option Addr} {xs : List S65} (h : k65.C w A xs.length xs) (k : Nat) (hk : k < xs.length) : ∃ t ad, xs.getD k z65 = t ∧ A = some ad ∧ At65 w (ad.add (k * 3)) t := by
  obtain ⟨ad, c, e, _, hK, hc0⟩ := Kd.C_get h z65 (k : Int) (by omega) (by omega)
  rw [Int.toNat_natCast] at hK hc0
  obtain rfl := k65_open hK
  exact ⟨_, ad, rfl, e, ⟨fun j v hj => by rw [add_add]; exact hc0 j v hj⟩⟩
/-! ### evt -/
structure At53 (w : World) (p : Addr) (t : S53) : Prop where
  cells : ∀ j v, [.string t.f0, .int .u32 t.f1, .bool t.f2][j]? = some v → w.cell? (p.add j) = some v
theorem At53.below {w w1 : World} {p : Addr} {t : S53} (h : At53 w p t) (hB : Below w.heap.size w w1) : At53 w1 p t := ⟨fun j v hj => (hB.cell (World.block_lt_of_cell? w _ (h.cells j v hj))).trans (h.cells j v hj)⟩
theorem At53.g0 {w : World} {p : Addr} {t : S53} (h : At53 w p t) : w.cell? p = some (.string t.f0) := h.cells 0 _ rfl
theorem At53.g1 {w : World} {p : Addr} {t : S53} (h : At53 w p t) : w.cell? ⟨p.block, p.off + 1, none⟩ = some (.int .u32 t.f1) := h.cells 1 _ rfl
theorem At53.g2 {w : World} {p : Addr} {t : S53} (h : At53 w p t) : w.cell? ⟨p.block, p.off + 2, none⟩ = some (.bool t.f2) := h.cells 2 _ rfl
theorem agg53 (w : World) : (isAgg 53).run Tryd.prog w = .ok true w := by kernel_rfl
theorem size53 (w : World) : (sizeOf 53).run Tryd.prog w = .ok 3 w := by kernel_rfl
theorem run53 {w : World} {p : Addr} {t : S53} (hX : At53 w p t) (y : Operand) (ho : o.op = .load 53 y) (hy : a.eval y = .pointer (some p)) : (execOp a.eval o).run Tryd.prog w = .ok (.value (.agg #[.string t.f0, .int .u32 t.f1, .bool t.f2])) w := by
  have hl := load_agg (w := w) (t := 53) (n := 3) (a := p) (cs := [.string t.f0, .int .u32 t.f1, .bool t.f2]) agg53 size53 rfl hX.cells
  simp only [execOp, ho, hy]
  simp [hl, Result.andThen]
theorem load53 {Q : Exit → Act → World → Prop} {w : World} {p : Addr} {t : S53} (hX : At53 w p t) (hgd : o.guard = none) (y : Operand) (ho : o.op = .load 53 y) (hy : a.eval y = .pointer (some p)) (h : wpList Tryd.prog ops Q rest (a.put o.dst (.agg #[.string t.f0, .int .u32 t.f1, .bool t.f2])) w) : wpList Tryd.prog ops Q (o :: rest) a w :=
  Kd.event_run hgd (v := .agg #[.string t.f0, .int .u32 t.f1, .bool t.f2]) (run53 hX y ho hy) h
theorem evt_at {w : World} {A : Option Addr} {xs : List S53} (h : k53.C w A xs.length xs) (k : Nat) (hk : k < xs.length) : ∃ t ad, xs.getD k z53 = t ∧ A = some ad ∧ At53 w (ad.add (k * 3)) t := by
  obtain ⟨ad, c, e, _, hK, hc0⟩ := Kd.C_get h z53 (k : Int) (by omega) (by omega)
  rw [Int.toNat_natCast] at hK hc0
  obtain rfl := k53_open hK
  exact ⟨_, ad, rfl, e, ⟨fun j v hj => by rw [add_add]; exact hc0 j v hj⟩⟩
/-! ### ctr -/
structure At62 (w : World) (p : Addr) (t : S62) : Prop where
  cells : ∀ j v, [.string t.f0, .int .u32 t.f1, .int .u32 t.f2, .int .u32 t.f3][j]? = some v → w.cell? (p.add j) = some v
theorem At62.below {w w1 : World} {p : Addr} {t : S62} (h : At62 w p t) (hB : Below w.heap.size w w1) : At62 w1 p t := ⟨fun j v hj => (hB.cell (World.block_lt_of_cell? w _ (h.cells j v hj))).trans (h.cells j v hj)⟩
theorem At62.g0 {w : World} {p : Addr} {t : S62} (h : At62 w p t) : w.cell? p = some (.string t.f0) := h.cells 0 _ rfl
theorem At62.g1 {w : World} {p : Addr} {t : S62} (h : At62 w p t) : w.cell? ⟨p.block, p.off + 1, none⟩ = some (.int .u32 t.f1) := h.cells 1 _ rfl
theorem At62.g2 {w : World} {p : Addr} {t : S62} (h : At62 w p t) : w.cell? ⟨p.block, p.off + 2, none⟩ = some (.int .u32 t.f2) := h.cells 2 _ rfl
theorem At62.g3 {w : World} {p : Addr} {t : S62} (h : At62 w p t) : w.cell? ⟨p.block, p.off + 3, none⟩ = some (.int .u32 t.f3) := h.cells 3 _ rfl
theorem agg62 (w : World) : (isAgg 62).run Tryd.prog w = .ok true w := by kernel_rfl
theorem size62 (w : World) : (sizeOf 62).run Tryd.prog w = .ok 4 w := by kernel_rfl
theorem run62 {w : World} {p : Addr} {t : S62} (hX : At62 w p t) (y : Operand) (ho : o.op = .load 62 y) (hy : a.eval y = .pointer (some p)) : (execOp a.eval o).run Tryd.prog w = .ok (.value (.agg #[.string t.f0, .int .u32 t.f1, .int .u32 t.f2, .int .u32 t.f3])) w := by
  have hl := load_agg (w := w) (t := 62) (n := 4) (a := p) (cs := [.string t.f0, .int .u32 t.f1, .int .u32 t.f2, .int .u32 t.f3]) agg62 size62 rfl hX.cells
  simp only [execOp, ho, hy]
  simp [hl, Result.andThen]
theorem load62 {Q : Exit → Act → World → Prop} {w : World} {p : Addr} {t : S62} (hX : At62 w p t) (hgd : o.guard = none) (y : Operand) (ho : o.op = .load 62 y) (hy : a.eval y = .pointer (some p)) (h : wpList Tryd.prog ops Q rest (a.put o.dst (.agg #[.string t.f0, .int .u32 t.f1, .int .u32 t.f2, .int .u32 t.f3])) w) : wpList Tryd.prog ops Q (o :: rest) a w :=
  Kd.event_run hgd (v := .agg #[.string t.f0, .int .u32 t.f1, .int .u32 t.f2, .int .u32 t.f3]) (run62 hX y ho hy) h
theorem ctr_at {w : World} {A : Option Addr} {xs : List S62} (h : k62.C w A xs.length xs) (k : Nat) (hk : k < xs.length) : ∃ t ad, xs.getD k z62 = t ∧ A = some ad ∧ At62 w (ad.add (k * 4)) t := by
  obtain ⟨ad, c, e, _, hK, hc0⟩ := Kd.C_get h z62 (k : Int) (by omega) (by omega)
  rw [Int.toNat_natCast] at hK hc0
  obtain rfl := k62_open hK
  exact ⟨_, ad, rfl, e, ⟨fun j v hj => by rw [add_add]; exact hc0 j v hj⟩⟩
/-! ### alm -/
structure At60 (w : World) (p : Addr) (t : S60) (A6 : Option Addr) (c6 : Nat) : Prop where
  cells : ∀ j v, [.string t.f0, .int .i64 t.f1, .int .i64 t.f2.f0, .int .i64 t.f2.f1, .int .i64 t.f2.f2, .string t.f2.f3, .slice A6 t.f3.length c6, .int .u32 t.f4, .int .u32 t.f5][j]? = some v → w.cell? (p.add j) = some v
theorem At60.below {w w1 : World} {p : Addr} {t : S60} {A6 : Option Addr} {c6 : Nat} (h : At60 w p t A6 c6) (hB : Below w.heap.size w w1) : At60 w1 p t A6 c6 := ⟨fun j v hj => (hB.cell (World.block_lt_of_cell? w _ (h.cells j v hj))).trans (h.cells j v hj)⟩
theorem At60.g0 {w : World} {p : Addr} {t : S60} {A6 : Option Addr} {c6 : Nat} (h : At60 w p t A6 c6) : w.cell? p = some (.string t.f0) := h.cells 0 _ rfl
theorem At60.g1 {w : World} {p : Addr} {t : S60} {A6 : Option Addr} {c6 : Nat} (h : At60 w p t A6 c6) : w.cell? ⟨p.block, p.off + 1, none⟩ = some (.int .i64 t.f1) := h.cells 1 _ rfl
theorem At60.g2 {w : World} {p : Addr} {t : S60} {A6 : Option Addr} {c6 : Nat} (h : At60 w p t A6 c6) : w.cell? ⟨p.block, p.off + 2, none⟩ = some (.int .i64 t.f2.f0) := h.cells 2 _ rfl
theorem At60.g3 {w : World} {p : Addr} {t : S60} {A6 : Option Addr} {c6 : Nat} (h : At60 w p t A6 c6) : w.cell? ⟨p.block, p.off + 3, none⟩ = some (.int .i64 t.f2.f1) := h.cells 3 _ rfl
theorem At60.g4 {w : World} {p : Addr} {t : S60} {A6 : Option Addr} {c6 : Nat} (h : At60 w p t A6 c6) : w.cell? ⟨p.block, p.off + 4, none⟩ = some (.int .i64 t.f2.f2) := h.cells 4 _ rfl
theorem At60.g5 {w : World} {p : Addr} {t : S60} {A6 : Option Addr} {c6 : Nat} (h : At60 w p t A6 c6) : w.cell? ⟨p.block, p.off + 5, none⟩ = some (.string t.f2.f3) := h.cells 5 _ rfl
theorem At60.g6 {w : World} {p : Addr} {t : S60} {A6 : Option Addr} {c6 : Nat} (h : At60 w p t A6 c6) : w.cell? ⟨p.block, p.off + 6, none⟩ = some (.slice A6 t.f3.length c6) := h.cells 6 _ rfl
theorem At60.g7 {w : World} {p : Addr} {t : S60} {A6 : Option Addr} {c6 : Nat} (h : At60 w p t A6 c6) : w.cell? ⟨p.block, p.off + 7, none⟩ = some (.int .u32 t.f4) := h.cells 7 _ rfl
theorem At60.g8 {w : World} {p : Addr} {t : S60} {A6 : Option Addr} {c6 : Nat} (h : At60 w p t A6 c6) : w.cell? ⟨p.block, p.off + 8, none⟩ = some (.int .u32 t.f5) := h.cells 8 _ rfl
theorem agg60 (w : World) : (isAgg 60).run Tryd.prog w = .ok true w := by kernel_rfl
theorem size60 (w : World) : (sizeOf 60).run Tryd.prog w = .ok 9 w := by kernel_rfl
theorem run60 {w : World} {p : Addr} {t : S60} {A6 : Option Addr} {c6 : Nat} (hX : At60 w p t A6 c6) (y : Operand) (ho : o.op = .load 60 y) (hy : a.eval y = .pointer (some p)) : (execOp a.eval o).run Tryd.prog w = .ok (.value (.agg #[.string t.f0, .int .i64 t.f1, .int .i64 t.f2.f0, .int .i64 t.f2.f1, .int .i64 t.f2.f2, .string t.f2.f3, .slice A6 t.f3.length c6, .int .u32 t.f4, .int .u32 t.f5])) w := by
  have hl := load_agg (w := w) (t := 60) (n := 9) (a := p) (cs := [.string t.f0, .int .i64 t.f1, .int .i64 t.f2.f0, .int .i64 t.f2.f1, .int .i64 t.f2.f2, .string t.f2.f3, .slice A6 t.f3.length c6, .int .u32 t.f4, .int .u32 t.f5]) agg60 size60 rfl hX.cells
  simp only [execOp, ho, hy]
  simp [hl, Result.andThen]
theorem load60 {Q : Exit → Act → World → Prop} {w : World} {p : Addr} {t : S60} {A6 : Option Addr} {c6 : Nat} (hX : At60 w p t A6 c6) (hgd : o.guard = none) (y : Operand) (ho : o.op = .load 60 y) (hy : a.eval y = .pointer (some p)) (h : wpList Tryd.prog ops Q rest (a.put o.dst (.agg #[.string t.f0, .int .i64 t.f1, .int .i64 t.f2.f0, .int .i64 t.f2.f1, .int .i64 t.f2.f2, .string t.f2.f3, .slice A6 t.f3.length c6, .int .u32 t.f4, .int .u32 t.f5])) w) : wpList Tryd.prog ops Q (o :: rest) a w :=
  Kd.event_run hgd (v := .agg #[.string t.f0, .int .i64 t.f1, .int .i64 t.f2.f0, .int .i64 t.f2.f1, .int .i64 t.f2.f2, .string t.f2.f3, .slice A6 t.f3.length c6, .int .u32 t.f4, .int .u32 t.f5]) (run60 hX y ho hy) h
theorem alm_at {w : World} {A : Option Addr} {xs : List S60} (h : k60.C w A xs.length xs) (k : Nat) (hk : k < xs.length) : ∃ t ad A6 c6, xs.getD k z60 = t ∧ A = some ad ∧ At60 w (ad.add (k * 9)) t A6 c6 ∧ t.f3.length ≤ c6 ∧ (Kd.int .i64).C w A6 t.f3.length t.f3 := by
  obtain ⟨ad, c, e, _, hK, hc0⟩ := Kd.C_get h z60 (k : Int) (by omega) (by omega)
  rw [Int.toNat_natCast] at hK hc0
  obtain ⟨A6, c6, rfl, l6, g6⟩ := k60_open hK
  exact ⟨_, ad, A6, c6, rfl, e, ⟨fun j v hj => by rw [add_add]; exact hc0 j v hj⟩, l6, g6⟩
/-! ### isr -/
structure At55 (w : World) (p : Addr) (t : S55) (A3 : Option Addr) (c3 : Nat) (A4 : Option Addr) (c4 : Nat) : Prop where
  cells : ∀ j v, [.string t.f0, .int .i64 t.f1, .int .i64 t.f2, .slice A3 t.f3.length c3, .slice A4 t.f4.length c4][j]? = some v → w.cell? (p.add j) = some v
theorem At55.below {w w1 : World} {p : Addr} {t : S55} {A3 : Option Addr} {c3 : Nat} {A4 : Option Addr} {c4 : Nat} (h : At55 w p t A3 c3 A4 c4) (hB : Below w.heap.size w w1) : At55 w1 p t A3 c3 A4 c4 := ⟨fun j v hj => (hB.cell (World.block_lt_of_cell? w _ (h.cells j v hj))).trans (h.cells j v hj)⟩
theorem At55.g0 {w : World} {p : Addr} {t : S55} {A3 : Option Addr} {c3 : Nat} {A4 : Option Addr} {c4 : Nat} (h : At55 w p t A3 c3 A4 c4) : w.cell? p = some (.string t.f0) := h.cells 0 _ rfl
theorem At55.g1 {w : World} {p : Addr} {t : S55} {A3 : Option Addr} {c3 : Nat} {A4 : Option Addr} {c4 : Nat} (h : At55 w p t A3 c3 A4 c4) : w.cell? ⟨p.block, p.off + 1, none⟩ = some (.int .i64 t.f1) := h.cells 1 _ rfl
theorem At55.g2 {w : World} {p : Addr} {t : S55} {A3 : Option Addr} {c3 : Nat} {A4 : Option Addr} {c4 : Nat} (h : At55 w p t A3 c3 A4 c4) : w.cell? ⟨p.block, p.off + 2, none⟩ = some (.int .i64 t.f2) := h.cells 2 _ rfl
theorem At55.g3 {w : World} {p : Addr} {t : S55} {A3 : Option Addr} {c3 : Nat} {A4 : Option Addr} {c4 : Nat} (h : At55 w p t A3 c3 A4 c4) : w.cell? ⟨p.block, p.off + 3, none⟩ = some (.slice A3 t.f3.length c3) := h.cells 3 _ rfl
theorem At55.g4 {w : World} {p : Addr} {t : S55} {A3 : Option Addr} {c3 : Nat} {A4 : Option Addr} {c4 : Nat} (h : At55 w p t A3 c3 A4 c4) : w.cell? ⟨p.block, p.off + 4, none⟩ = some (.slice A4 t.f4.length c4) := h.cells 4 _ rfl
theorem agg55 (w : World) : (isAgg 55).run Tryd.prog w = .ok true w := by kernel_rfl
theorem size55 (w : World) : (sizeOf 55).run Tryd.prog w = .ok 5 w := by kernel_rfl
theorem run55 {w : World} {p : Addr} {t : S55} {A3 : Option Addr} {c3 : Nat} {A4 : Option Addr} {c4 : Nat} (hX : At55 w p t A3 c3 A4 c4) (y : Operand) (ho : o.op = .load 55 y) (hy : a.eval y = .pointer (some p)) : (execOp a.eval o).run Tryd.prog w = .ok (.value (.agg #[.string t.f0, .int .i64 t.f1, .int .i64 t.f2, .slice A3 t.f3.length c3, .slice A4 t.f4.length c4])) w := by
  have hl := load_agg (w := w) (t := 55) (n := 5) (a := p) (cs := [.string t.f0, .int .i64 t.f1, .int .i64 t.f2, .slice A3 t.f3.length c3, .slice A4 t.f4.length c4]) agg55 size55 rfl hX.cells
  simp only [execOp, ho, hy]
  simp [hl, Result.andThen]
theorem load55 {Q : Exit → Act → World → Prop} {w : World} {p : Addr} {t : S55} {A3 : Option Addr} {c3 : Nat} {A4 : Option Addr} {c4 : Nat} (hX : At55 w p t A3 c3 A4 c4) (hgd : o.guard = none) (y : Operand) (ho : o.op = .load 55 y) (hy : a.eval y = .pointer (some p)) (h : wpList Tryd.prog ops Q rest (a.put o.dst (.agg #[.string t.f0, .int .i64 t.f1, .int .i64 t.f2, .slice A3 t.f3.length c3, .slice A4 t.f4.length c4])) w) : wpList Tryd.prog ops Q (o :: rest) a w :=
  Kd.event_run hgd (v := .agg #[.string t.f0, .int .i64 t.f1, .int .i64 t.f2, .slice A3 t.f3.length c3, .slice A4 t.f4.length c4]) (run55 hX y ho hy) h
theorem isr_at {w : World} {A : Option Addr} {xs : List S55} (h : k55.C w A xs.length xs) (k : Nat) (hk : k < xs.length) : ∃ t ad A3 c3 A4 c4, xs.getD k z55 = t ∧ A = some ad ∧ At55 w (ad.add (k * 5)) t A3 c3 A4 c4 ∧ t.f3.length ≤ c3 ∧ (Kd.int .i64).C w A3 t.f3.length t.f3 ∧ t.f4.length ≤ c4 ∧ (Kd.int .i64).C w A4 t.f4.length t.f4 := by
  obtain ⟨ad, c, e, _, hK, hc0⟩ := Kd.C_get h z55 (k : Int) (by omega) (by omega)
  rw [Int.toNat_natCast] at hK hc0
  obtain ⟨A3, c3, A4, c4, rfl, l3, g3, l4, g4⟩ := k55_open hK
  exact ⟨_, ad, A3, c3, A4, c4, rfl, e, ⟨fun j v hj => by rw [add_add]; exact hc0 j v hj⟩, l3, g3, l4, g4⟩
/-! ### msg -/
structure At91 (w : World) (p : Addr) (t : S91) : Prop where
  cells : ∀ j v, [.string t.f0, .int .i64 t.f1, .int .i64 t.f2, .int .i64 t.f3, .int .u64 t.f4, .int .i64 t.f5, .int .i64 t.f6.f0, .int .i64 t.f6.f1, .int .i64 t.f6.f2, .string t.f6.f3][j]? = some v → w.cell? (p.add j) = some v
theorem At91.below {w w1 : World} {p : Addr} {t : S91} (h : At91 w p t) (hB : Below w.heap.size w w1) : At91 w1 p t := ⟨fun j v hj => (hB.cell (World.block_lt_of_cell? w _ (h.cells j v hj))).trans (h.cells j v hj)⟩
theorem At91.g0 {w : World} {p : Addr} {t : S91} (h : At91 w p t) : w.cell? p = some (.string t.f0) := h.cells 0 _ rfl
theorem At91.g1 {w : World} {p : Addr} {t : S91} (h : At91 w p t) : w.cell? ⟨p.block, p.off + 1, none⟩ = some (.int .i64 t.f1) := h.cells 1 _ rfl
theorem At91.g2 {w : World} {p : Addr} {t : S91} (h : At91 w p t) : w.cell? ⟨p.block, p.off + 2, none⟩ = some (.int .i64 t.f2) := h.cells 2 _ rfl
theorem At91.g3 {w : World} {p : Addr} {t : S91} (h : At91 w p t) : w.cell? ⟨p.block, p.off + 3, none⟩ = some (.int .i64 t.f3) := h.cells 3 _ rfl
theorem At91.g4 {w : World} {p : Addr} {t : S91} (h : At91 w p t) : w.cell? ⟨p.block, p.off + 4, none⟩ = some (.int .u64 t.f4) := h.cells 4 _ rfl
theorem At91.g5 {w : World} {p : Addr} {t : S91} (h : At91 w p t) : w.cell? ⟨p.block, p.off + 5, none⟩ = some (.int .i64 t.f5) := h.cells 5 _ rfl
theorem At91.g6 {w : World} {p : Addr} {t : S91} (h : At91 w p t) : w.cell? ⟨p.block, p.off + 6, none⟩ = some (.int .i64 t.f6.f0) := h.cells 6 _ rfl
theorem At91.g7 {w : World} {p : Addr} {t : S91} (h : At91 w p t) : w.cell? ⟨p.block, p.off + 7, none⟩ = some (.int .i64 t.f6.f1) := h.cells 7 _ rfl
theorem At91.g8 {w : World} {p : Addr} {t : S91} (h : At91 w p t) : w.cell? ⟨p.block, p.off + 8, none⟩ = some (.int .i64 t.f6.f2) := h.cells 8 _ rfl
theorem At91.g9 {w : World} {p : Addr} {t : S91} (h : At91 w p t) : w.cell? ⟨p.block, p.off + 9, none⟩ = some (.string t.f6.f3) := h.cells 9 _ rfl
theorem agg91 (w : World) : (isAgg 91).run Tryd.prog w = .ok true w := by kernel_rfl
theorem size91 (w : World) : (sizeOf 91).run Tryd.prog w = .ok 10 w := by kernel_rfl
theorem run91 {w : World} {p : Addr} {t : S91} (hX : At91 w p t) (y : Operand) (ho : o.op = .load 91 y) (hy : a.eval y = .pointer (some p)) : (execOp a.eval o).run Tryd.prog w = .ok (.value (.agg #[.string t.f0, .int .i64 t.f1, .int .i64 t.f2, .int .i64 t.f3, .int .u64 t.f4, .int .i64 t.f5, .int .i64 t.f6.f0, .int .i64 t.f6.f1, .int .i64 t.f6.f2, .string t.f6.f3])) w := by
  have hl := load_agg (w := w) (t := 91) (n := 10) (a := p) (cs := [.string t.f0, .int .i64 t.f1, .int .i64 t.f2, .int .i64 t.f3, .int .u64 t.f4, .int .i64 t.f5, .int .i64 t.f6.f0, .int .i64 t.f6.f1, .int .i64 t.f6.f2, .string t.f6.f3]) agg91 size91 rfl hX.cells
  simp only [execOp, ho, hy]
  simp [hl, Result.andThen]
theorem load91 {Q : Exit → Act → World → Prop} {w : World} {p : Addr} {t : S91} (hX : At91 w p t) (hgd : o.guard = none) (y : Operand) (ho : o.op = .load 91 y) (hy : a.eval y = .pointer (some p)) (h : wpList Tryd.prog ops Q rest (a.put o.dst (.agg #[.string t.f0, .int .i64 t.f1, .int .i64 t.f2, .int .i64 t.f3, .int .u64 t.f4, .int .i64 t.f5, .int .i64 t.f6.f0, .int .i64 t.f6.f1, .int .i64 t.f6.f2, .string t.f6.f3])) w) : wpList Tryd.prog ops Q (o :: rest) a w :=
  Kd.event_run hgd (v := .agg #[.string t.f0, .int .i64 t.f1, .int .i64 t.f2, .int .i64 t.f3, .int .u64 t.f4, .int .i64 t.f5, .int .i64 t.f6.f0, .int .i64 t.f6.f1, .int .i64 t.f6.f2, .string t.f6.f3]) (run91 hX y ho hy) h
theorem msg_at {w : World} {A : Option Addr} {xs : List S91} (h : k91.C w A xs.length xs) (k : Nat) (hk : k < xs.length) : ∃ t ad, xs.getD k z91 = t ∧ A = some ad ∧ At91 w (ad.add (k * 10)) t := by
  obtain ⟨ad, c, e, _, hK, hc0⟩ := Kd.C_get h z91 (k : Int) (by omega) (by omega)
  rw [Int.toNat_natCast] at hK hc0
  obtain rfl := k91_open hK
  exact ⟨_, ad, rfl, e, ⟨fun j v hj => by rw [add_add]; exact hc0 j v hj⟩⟩
end
theorem k23_open {w : World} {x : S23} {cs : List Value} (h : k23.K w x cs) : cs = [.string x.f0, .bool x.f1, .bool x.f2, .bool x.f3, .bool x.f4, .bool x.f5, .bool x.f6, .bool x.f7, .bool x.f8] := by
  obtain ⟨_, _, rfl, rfl, ⟨_, _, rfl, rfl, ⟨_, _, rfl, rfl, ⟨_, _, rfl, rfl, ⟨_, _, rfl, rfl, ⟨_, _, rfl, rfl, ⟨_, _, rfl, rfl, ⟨_, _, rfl, rfl, rfl⟩⟩⟩⟩⟩⟩⟩⟩ := h
  rfl
theorem k33_open {w : World} {c : S33} {cs : List Value} (h : k33.K w c cs) (hb : Bd c) : ∃ V : CV, cs = (arr V c).toList ∧ Cf w V c := by
  obtain ⟨_, _, rfl, rfl, ⟨_, _, rfl, s1, ⟨_, _, rfl, ⟨A10, c10, rfl, l10, g10⟩, ⟨_, _, rfl, ⟨A11, c11, rfl, l11, g11⟩, ⟨_, _, rfl, ⟨A12, c12, rfl, l12, g12⟩, ⟨_, _, rfl, ⟨A13, c13, rfl, l13, g13⟩, ⟨_, _, rfl, ⟨A14, c14, rfl, l14, g14⟩, ⟨_, _, rfl, ⟨A15, c15, rfl, l15, g15⟩, ⟨_, _, rfl, ⟨A16, c16, rfl, l16, g16⟩, ⟨A17, c17, rfl, l17, g17⟩⟩⟩⟩⟩⟩⟩⟩⟩⟩ := h
  obtain rfl := k23_open s1
  exact ⟨⟨A10, A11, A12, A13, A14, A15, A16, A17, c10, c11, c12, c13, c14, c15, c16, c17⟩, rfl, ⟨hb, l10, g10, l11, g11, l12, g12, l13, g13, l14, g14, l15, g15, l16, g16, l17, g17⟩⟩
end Go.Proofs.YthckjbmgeidkgaaDoor.XA
