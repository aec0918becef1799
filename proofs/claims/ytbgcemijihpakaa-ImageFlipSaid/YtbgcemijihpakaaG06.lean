/- tables: thirteen cells, seven lists; elements and their cells; structs loaded whole. -/
import Derived.Test.YtbgcemijihpakaaG05
import Derived.Lib.Hide
import Derived.Maps.Views
import Derived.Deep.DeepCutAuto
import Derived.Deep.WholeRow
import Derived.Laws.CopyOwn
namespace Go.Proofs.Ytbgcemijihpakaa.XA
set_option linter.unusedVariables false
set_option linter.unusedSimpArgs false
open Go.RowKit Go.WideMaps Go.Maps Go.Proofs.YtbgcemijihpakaaW.PrintWords Go.Proofs.YtbgcemijihpakaaW.PrintLast Go.Proofs.YtbgcemijihpakaaW.PrintMore
/-- where the lists lie -/
structure TV where
 (a2 a3 a4 a5 a6 a7 a8 : Option Addr) (k2 k3 k4 k5 k6 k7 k8 : Nat)
def arr (V : TV) (t : S33) : Array Value := #[.int .i64 t.f0, .int .i64 t.f1, .slice V.a2 t.f2.length V.k2, .slice V.a3 t.f3.length V.k3, .slice V.a4 t.f4.length V.k4, .slice V.a5 t.f5.length V.k5, .slice V.a6 t.f6.length V.k6, .slice V.a7 t.f7.length V.k7, .slice V.a8 t.f8.length V.k8, .int .i64 t.f9, .int .i64 t.f10, .int .i64 t.f11, .int .i64 t.f12]
/-- the lists are not greater than what may be handed in -/
structure Bd (t : S33) : Prop where
 tk : t.f2.length ≤ 140737488355328
 rg : t.f3.length ≤ 140737488355328
 rs : t.f4.length ≤ 140737488355328
 ct : t.f5.length ≤ 140737488355328
 al : t.f6.length ≤ 140737488355328
 ir : t.f7.length ≤ 140737488355328
 mg : t.f8.length ≤ 140737488355328
/-- the lists are read -/
structure Tb (w : World) (V : TV) (t : S33) : Prop where
 bd : Bd t
 tkl : t.f2.length ≤ V.k2
 tk : k69.C w V.a2 t.f2.length t.f2
 rgl : t.f3.length ≤ V.k3
 rg : k88.C w V.a3 t.f3.length t.f3
 rsl : t.f4.length ≤ V.k4
 rs : k66.C w V.a4 t.f4.length t.f4
 ctl : t.f5.length ≤ V.k5
 ct : k95.C w V.a5 t.f5.length t.f5
 all : t.f6.length ≤ V.k6
 al : k102.C w V.a6 t.f6.length t.f6
 irl : t.f7.length ≤ V.k7
 ir : k107.C w V.a7 t.f7.length t.f7
 mgl : t.f8.length ≤ V.k8
 mg : k113.C w V.a8 t.f8.length t.f8
theorem Tb.below {w w1 : World} {V : TV} {t : S33} (h : Tb w V t) (hB : Below w.heap.size w w1) : Tb w1 V t := ⟨h.bd, h.tkl, Kd.C_below h.tk hB, h.rgl, Kd.C_below h.rg hB, h.rsl, Kd.C_below h.rs hB, h.ctl, Kd.C_below h.ct hB, h.all, Kd.C_below h.al hB, h.irl, Kd.C_below h.ir hB, h.mgl, Kd.C_below h.mg hB⟩
/-- the tables in a box -/
structure At (w : World) (B : Nat) (V : TV) (t : S33) : Prop where
 box : w.heap[B]? = some (.cells (arr V t) 33 (0, 0))
 tb : Tb w V t
theorem At.lt {w : World} {B : Nat} {V : TV} {t : S33} (h : At w B V t) : B < w.heap.size := blk_lt h.box
theorem At.below {w w1 : World} {B : Nat} {V : TV} {t : S33} (h : At w B V t) (hB : Below w.heap.size w w1) : At w1 B V t := ⟨(hB.block B h.lt).trans h.box, h.tb.below hB⟩
theorem At.made {w : World} {V : TV} {t : S33} (h : Tb w V t) : At (w.alloc (.cells (arr V t) 33)) w.heap.size V t := ⟨heap_alloc_new w _, h.below ((Below.refl _ _).alloc (Nat.le_refl _) _)⟩
theorem At.cell {w : World} {B : Nat} {V : TV} {t : S33} (h : At w B V t) (k : Nat) : w.cell? ⟨B, k, none⟩ = (arr V t)[k]? := by
 have := h.box
 simp only [World.cell?, this]
 simp

theorem At.q0 {w : World} {B : Nat} {V : TV} {t : S33} (h : At w B V t) : w.cell? ⟨B, 0, none⟩ = some (.int .i64 t.f0) := h.cell 0
theorem At.q1 {w : World} {B : Nat} {V : TV} {t : S33} (h : At w B V t) : w.cell? ⟨B, 1, none⟩ = some (.int .i64 t.f1) := h.cell 1
theorem At.q9 {w : World} {B : Nat} {V : TV} {t : S33} (h : At w B V t) : w.cell? ⟨B, 9, none⟩ = some (.int .i64 t.f9) := h.cell 9
theorem At.q10 {w : World} {B : Nat} {V : TV} {t : S33} (h : At w B V t) : w.cell? ⟨B, 10, none⟩ = some (.int .i64 t.f10) := h.cell 10
theorem At.q11 {w : World} {B : Nat} {V : TV} {t : S33} (h : At w B V t) : w.cell? ⟨B, 11, none⟩ = some (.int .i64 t.f11) := h.cell 11
theorem At.q12 {w : World} {B : Nat} {V : TV} {t : S33} (h : At w B V t) : w.cell? ⟨B, 12, none⟩ = some (.int .i64 t.f12) := h.cell 12
theorem At.q2 {w : World} {B : Nat} {V : TV} {t : S33} (h : At w B V t) : w.cell? ⟨B, 2, none⟩ = some (.slice V.a2 t.f2.length V.k2) := h.cell 2
theorem At.q3 {w : World} {B : Nat} {V : TV} {t : S33} (h : At w B V t) : w.cell? ⟨B, 3, none⟩ = some (.slice V.a3 t.f3.length V.k3) := h.cell 3
theorem At.q4 {w : World} {B : Nat} {V : TV} {t : S33} (h : At w B V t) : w.cell? ⟨B, 4, none⟩ = some (.slice V.a4 t.f4.length V.k4) := h.cell 4
theorem At.q5 {w : World} {B : Nat} {V : TV} {t : S33} (h : At w B V t) : w.cell? ⟨B, 5, none⟩ = some (.slice V.a5 t.f5.length V.k5) := h.cell 5
theorem At.q6 {w : World} {B : Nat} {V : TV} {t : S33} (h : At w B V t) : w.cell? ⟨B, 6, none⟩ = some (.slice V.a6 t.f6.length V.k6) := h.cell 6
theorem At.q7 {w : World} {B : Nat} {V : TV} {t : S33} (h : At w B V t) : w.cell? ⟨B, 7, none⟩ = some (.slice V.a7 t.f7.length V.k7) := h.cell 7
theorem At.q8 {w : World} {B : Nat} {V : TV} {t : S33} (h : At w B V t) : w.cell? ⟨B, 8, none⟩ = some (.slice V.a8 t.f8.length V.k8) := h.cell 8
theorem drew_below (w : World) : Below w.heap.size w w.drew := ⟨rfl, rfl, rfl, Nat.le_refl _, fun _ _ => rfl⟩
theorem drewN_below (w : World) (n : Nat) : Below w.heap.size w (w.drewN n) := ⟨rfl, rfl, rfl, Nat.le_refl _, fun _ _ => rfl⟩
theorem below_a (w : World) (o : Obj) : Below w.heap.size w (w.alloc o) := (Below.refl _ _).alloc (Nat.le_refl _) _
theorem add_z (B j : Nat) : (⟨B, 0, none⟩ : Addr).add j = ⟨B, j, none⟩ := by unfold Addr.add; split <;> simp_all
theorem box_at {w : World} {cs : List Value} {e : TypeId} (j : Nat) (v : Value) (hj : cs[j]? = some v) : (w.alloc (.cells cs.toArray e)).cell? ((⟨w.heap.size, 0, none⟩ : Addr).add j) = some v := by
 rw [add_z]
 have h := heap_alloc_new w (.cells cs.toArray e)
 simp only [World.cell?, h]
 simpa using hj
/-! ### structs loaded whole -/
theorem load_agg {w : World} {t n : Nat} {a : Addr} {cs : List Value} (hag : ∀ w : World, (isAgg t).run Try.prog w = .ok true w) (hsz : ∀ w : World, (sizeOf t).run Try.prog w = .ok n w) (hn : cs.length = n) (h : ∀ j v, cs[j]? = some v → w.cell? (a.add j) = some v) :
  (Instr.loadAt t (.pointer (some a))).run Try.prog w = .ok (.agg cs.toArray) w := by
 subst hn
 have h1 := run_loadCells_list (P := Try.prog) w a cs h
 simp [Instr.loadAt, Instr.sureAddr, loadVar, hag, hsz, h1, Result.andThen]
section
variable {ops : Array Oper} {rest : List Oper} {o : Oper} {a : Act}
theorem agg33 (w : World) : (isAgg 33).run Try.prog w = .ok true w := by kernel_rfl
theorem size33 (w : World) : (sizeOf 33).run Try.prog w = .ok 13 w := by kernel_rfl
theorem run33 {w : World} {B : Nat} {V : TV} {t : S33} (hX : At w B V t) (y : Operand) (ho : o.op = .load 33 y) (hy : a.eval y = .pointer (some (⟨B, 0, none⟩ : Addr))) : (execOp a.eval o).run Try.prog w = .ok (.value (.agg #[.int .i64 t.f0, .int .i64 t.f1, .slice V.a2 t.f2.length V.k2, .slice V.a3 t.f3.length V.k3, .slice V.a4 t.f4.length V.k4, .slice V.a5 t.f5.length V.k5, .slice V.a6 t.f6.length V.k6, .slice V.a7 t.f7.length V.k7, .slice V.a8 t.f8.length V.k8, .int .i64 t.f9, .int .i64 t.f10, .int .i64 t.f11, .int .i64 t.f12])) w := by
 have hl := load_agg (w := w) (t := 33) (n := 13) (a := (⟨B, 0, none⟩ : Addr)) (cs := [.int .i64 t.f0, .int .i64 t.f1, .slice V.a2 t.f2.length V.k2, .slice V.a3 t.f3.length V.k3, .slice V.a4 t.f4.length V.k4, .slice V.a5 t.f5.length V.k5, .slice V.a6 t.f6.length V.k6, .slice V.a7 t.f7.length V.k7, .slice V.a8 t.f8.length V.k8, .int .i64 t.f9, .int .i64 t.f10, .int .i64 t.f11, .int .i64 t.f12]) agg33 size33 rfl (fun j v hj => by
  rw [add_z, hX.cell j, ← hj]
  unfold arr
  simp)
 simp only [execOp, ho, hy]
 simp [hl, Result.andThen]
theorem load33 {Q : Exit → Act → World → Prop} {w : World} {B : Nat} {V : TV} {t : S33} (hX : At w B V t) (hgd : o.guard = none) (y : Operand) (ho : o.op = .load 33 y) (hy : a.eval y = .pointer (some (⟨B, 0, none⟩ : Addr))) (h : wpList Try.prog ops Q rest (a.put o.dst (.agg #[.int .i64 t.f0, .int .i64 t.f1, .slice V.a2 t.f2.length V.k2, .slice V.a3 t.f3.length V.k3, .slice V.a4 t.f4.length V.k4, .slice V.a5 t.f5.length V.k5, .slice V.a6 t.f6.length V.k6, .slice V.a7 t.f7.length V.k7, .slice V.a8 t.f8.length V.k8, .int .i64 t.f9, .int .i64 t.f10, .int .i64 t.f11, .int .i64 t.f12])) w) : wpList Try.prog ops Q (o :: rest) a w :=
 Kd.event_run hgd (v := .agg #[.int .i64 t.f0, .int .i64 t.f1, .slice V.a2 t.f2.length V.k2, .slice V.a3 t.f3.length V.k3, .slice V.a4 t.f4.length V.k4, .slice V.a5 t.f5.length V.k5, .slice V.a6 t.f6.length V.k6, .slice V.a7 t.f7.length V.k7, .slice V.a8 t.f8.length V.k8, .int .i64 t.f9, .int .i64 t.f10, .int .i64 t.f11, .int .i64 t.f12]) (run33 hX y ho hy) h
/-! ### task -/
structure At69 (w : World) (p : Addr) (t : S69) (A6 : Option Addr) (c6 : Nat) : Prop where
 cells : ∀ j v, [.int .i64 t.f0, .int .i64 t.f1, .bool t.f2, .int .i64 t.f3, .int .u32 t.f4, .int .i64 t.f5, .slice A6 t.f6.length c6, .int .u32 t.f7][j]? = some v → w.cell? (p.add j) = some v
theorem At69.below {w w1 : World} {p : Addr} {t : S69} {A6 : Option Addr} {c6 : Nat} (h : At69 w p t A6 c6) (hB : Below w.heap.size w w1) : At69 w1 p t A6 c6 := ⟨fun j v hj => (hB.cell (World.block_lt_of_cell? w _ (h.cells j v hj))).trans (h.cells j v hj)⟩
theorem At69.made (w : World) (t : S69) (A6 : Option Addr) (c6 : Nat) : At69 (w.alloc (.cells #[.int .i64 t.f0, .int .i64 t.f1, .bool t.f2, .int .i64 t.f3, .int .u32 t.f4, .int .i64 t.f5, .slice A6 t.f6.length c6, .int .u32 t.f7] 69)) ⟨w.heap.size, 0, none⟩ t A6 c6 := ⟨fun j v hj => box_at (cs := [.int .i64 t.f0, .int .i64 t.f1, .bool t.f2, .int .i64 t.f3, .int .u32 t.f4, .int .i64 t.f5, .slice A6 t.f6.length c6, .int .u32 t.f7]) (e := 69) j v hj⟩
theorem At69.g0 {w : World} {p : Addr} {t : S69} {A6 : Option Addr} {c6 : Nat} (h : At69 w p t A6 c6) : w.cell? p = some (.int .i64 t.f0) := h.cells 0 _ rfl
theorem At69.g1 {w : World} {p : Addr} {t : S69} {A6 : Option Addr} {c6 : Nat} (h : At69 w p t A6 c6) : w.cell? ⟨p.block, p.off + 1, none⟩ = some (.int .i64 t.f1) := h.cells 1 _ rfl
theorem At69.g2 {w : World} {p : Addr} {t : S69} {A6 : Option Addr} {c6 : Nat} (h : At69 w p t A6 c6) : w.cell? ⟨p.block, p.off + 2, none⟩ = some (.bool t.f2) := h.cells 2 _ rfl
theorem At69.g3 {w : World} {p : Addr} {t : S69} {A6 : Option Addr} {c6 : Nat} (h : At69 w p t A6 c6) : w.cell? ⟨p.block, p.off + 3, none⟩ = some (.int .i64 t.f3) := h.cells 3 _ rfl
theorem At69.g4 {w : World} {p : Addr} {t : S69} {A6 : Option Addr} {c6 : Nat} (h : At69 w p t A6 c6) : w.cell? ⟨p.block, p.off + 4, none⟩ = some (.int .u32 t.f4) := h.cells 4 _ rfl
theorem At69.g5 {w : World} {p : Addr} {t : S69} {A6 : Option Addr} {c6 : Nat} (h : At69 w p t A6 c6) : w.cell? ⟨p.block, p.off + 5, none⟩ = some (.int .i64 t.f5) := h.cells 5 _ rfl
theorem At69.g6 {w : World} {p : Addr} {t : S69} {A6 : Option Addr} {c6 : Nat} (h : At69 w p t A6 c6) : w.cell? ⟨p.block, p.off + 6, none⟩ = some (.slice A6 t.f6.length c6) := h.cells 6 _ rfl
theorem At69.g7 {w : World} {p : Addr} {t : S69} {A6 : Option Addr} {c6 : Nat} (h : At69 w p t A6 c6) : w.cell? ⟨p.block, p.off + 7, none⟩ = some (.int .u32 t.f7) := h.cells 7 _ rfl
theorem agg69 (w : World) : (isAgg 69).run Try.prog w = .ok true w := by kernel_rfl
theorem size69 (w : World) : (sizeOf 69).run Try.prog w = .ok 8 w := by kernel_rfl
theorem run69 {w : World} {p : Addr} {t : S69} {A6 : Option Addr} {c6 : Nat} (hX : At69 w p t A6 c6) (y : Operand) (ho : o.op = .load 69 y) (hy : a.eval y = .pointer (some p)) : (execOp a.eval o).run Try.prog w = .ok (.value (.agg #[.int .i64 t.f0, .int .i64 t.f1, .bool t.f2, .int .i64 t.f3, .int .u32 t.f4, .int .i64 t.f5, .slice A6 t.f6.length c6, .int .u32 t.f7])) w := by
 have hl := load_agg (w := w) (t := 69) (n := 8) (a := p) (cs := [.int .i64 t.f0, .int .i64 t.f1, .bool t.f2, .int .i64 t.f3, .int .u32 t.f4, .int .i64 t.f5, .slice A6 t.f6.length c6, .int .u32 t.f7]) agg69 size69 rfl hX.cells
 simp only [execOp, ho, hy]
 simp [hl, Result.andThen]
theorem load69 {Q : Exit → Act → World → Prop} {w : World} {p : Addr} {t : S69} {A6 : Option Addr} {c6 : Nat} (hX : At69 w p t A6 c6) (hgd : o.guard = none) (y : Operand) (ho : o.op = .load 69 y) (hy : a.eval y = .pointer (some p)) (h : wpList Try.prog ops Q rest (a.put o.dst (.agg #[.int .i64 t.f0, .int .i64 t.f1, .bool t.f2, .int .i64 t.f3, .int .u32 t.f4, .int .i64 t.f5, .slice A6 t.f6.length c6, .int .u32 t.f7])) w) : wpList Try.prog ops Q (o :: rest) a w :=
 Kd.event_run hgd (v := .agg #[.int .i64 t.f0, .int .i64 t.f1, .bool t.f2, .int .i64 t.f3, .int .u32 t.f4, .int .i64 t.f5, .slice A6 t.f6.length c6, .int .u32 t.f7]) (run69 hX y ho hy) h
theorem store69 {Q : Exit → Act → World → Prop} {w : World} {z : Array Value} (hz : z.size = 8) (cs : Array Value) (hcs : cs.size = 8) (h1 : cs.all (·.oneCell') = true) (hgd : o.guard = none) (x y : Operand) (ho : o.op = .store 69 x y) (hx : a.eval x = .pointer (some ⟨w.heap.size, 0, none⟩)) (hy : a.eval y = .agg cs) (hd : o.dst = none)
  (h : wpList Try.prog ops Q rest a (w.alloc (.cells cs 69))) : wpList Try.prog ops Q (o :: rest) a (w.alloc (.cells z 69)) :=
 wpList_plain hgd fun _ hK => by
  have hr := run_storeVar_new (P := Try.prog) w 69 z cs (by rw [hcs]; kernel_rfl) (by omega) h1
  unfold Oper.wp execOp
  simp only [ho, hx, hy, Instr.storeAt, Instr.sureAddr, Sem.run_bind, Sem.run_pure, Result.andThen_ok, hr]
  refine hK _ _ ?_
  rw [hd]
  exact h
theorem task_at {w : World} {A : Option Addr} {xs : List S69} (h : k69.C w A xs.length xs) (k : Nat) (hk : k < xs.length) : ∃ t ad A6 c6, xs.getD k z69 = t ∧ A = some ad ∧ At69 w (ad.add (k * 8)) t A6 c6 ∧ t.f6.length ≤ c6 ∧ (Kd.int .i64).C w A6 t.f6.length t.f6 := by
 obtain ⟨ad, c, e, _, hK, hc0⟩ := Kd.C_get h z69 (k : Int) (by omega) (by omega)
 rw [Int.toNat_natCast] at hK hc0
 obtain ⟨A6, c6, rfl, l6, g6⟩ := k69_open hK
 exact ⟨_, ad, A6, c6, rfl, e, ⟨fun j v hj => by rw [add_add]; exact hc0 j v hj⟩, l6, g6⟩
/-! ### ring -/
structure At88 (w : World) (p : Addr) (t : S88) : Prop where
 cells : ∀ j v, [.int .i64 t.f0, .int .i64 t.f1][j]? = some v → w.cell? (p.add j) = some v
theorem At88.below {w w1 : World} {p : Addr} {t : S88} (h : At88 w p t) (hB : Below w.heap.size w w1) : At88 w1 p t := ⟨fun j v hj => (hB.cell (World.block_lt_of_cell? w _ (h.cells j v hj))).trans (h.cells j v hj)⟩
theorem At88.made (w : World) (t : S88) : At88 (w.alloc (.cells #[.int .i64 t.f0, .int .i64 t.f1] 88)) ⟨w.heap.size, 0, none⟩ t := ⟨fun j v hj => box_at (cs := [.int .i64 t.f0, .int .i64 t.f1]) (e := 88) j v hj⟩
theorem At88.g0 {w : World} {p : Addr} {t : S88} (h : At88 w p t) : w.cell? p = some (.int .i64 t.f0) := h.cells 0 _ rfl
theorem At88.g1 {w : World} {p : Addr} {t : S88} (h : At88 w p t) : w.cell? ⟨p.block, p.off + 1, none⟩ = some (.int .i64 t.f1) := h.cells 1 _ rfl
theorem agg88 (w : World) : (isAgg 88).run Try.prog w = .ok true w := by kernel_rfl
theorem size88 (w : World) : (sizeOf 88).run Try.prog w = .ok 2 w := by kernel_rfl
theorem run88 {w : World} {p : Addr} {t : S88} (hX : At88 w p t) (y : Operand) (ho : o.op = .load 88 y) (hy : a.eval y = .pointer (some p)) : (execOp a.eval o).run Try.prog w = .ok (.value (.agg #[.int .i64 t.f0, .int .i64 t.f1])) w := by
 have hl := load_agg (w := w) (t := 88) (n := 2) (a := p) (cs := [.int .i64 t.f0, .int .i64 t.f1]) agg88 size88 rfl hX.cells
 simp only [execOp, ho, hy]
 simp [hl, Result.andThen]
theorem load88 {Q : Exit → Act → World → Prop} {w : World} {p : Addr} {t : S88} (hX : At88 w p t) (hgd : o.guard = none) (y : Operand) (ho : o.op = .load 88 y) (hy : a.eval y = .pointer (some p)) (h : wpList Try.prog ops Q rest (a.put o.dst (.agg #[.int .i64 t.f0, .int .i64 t.f1])) w) : wpList Try.prog ops Q (o :: rest) a w :=
 Kd.event_run hgd (v := .agg #[.int .i64 t.f0, .int .i64 t.f1]) (run88 hX y ho hy) h
theorem store88 {Q : Exit → Act → World → Prop} {w : World} {z : Array Value} (hz : z.size = 2) (cs : Array Value) (hcs : cs.size = 2) (h1 : cs.all (·.oneCell') = true) (hgd : o.guard = none) (x y : Operand) (ho : o.op = .store 88 x y) (hx : a.eval x = .pointer (some ⟨w.heap.size, 0, none⟩)) (hy : a.eval y = .agg cs) (hd : o.dst = none)
  (h : wpList Try.prog ops Q rest a (w.alloc (.cells cs 88))) : wpList Try.prog ops Q (o :: rest) a (w.alloc (.cells z 88)) :=
 wpList_plain hgd fun _ hK => by
  have hr := run_storeVar_new (P := Try.prog) w 88 z cs (by rw [hcs]; kernel_rfl) (by omega) h1
  unfold Oper.wp execOp
  simp only [ho, hx, hy, Instr.storeAt, Instr.sureAddr, Sem.run_bind, Sem.run_pure, Result.andThen_ok, hr]
  refine hK _ _ ?_
  rw [hd]
  exact h
theorem ring_at {w : World} {A : Option Addr} {xs : List S88} (h : k88.C w A xs.length xs) (k : Nat) (hk : k < xs.length) : ∃ t ad, xs.getD k z88 = t ∧ A = some ad ∧ At88 w (ad.add (k * 2)) t := by
 obtain ⟨ad, c, e, _, hK, hc0⟩ := Kd.C_get h z88 (k : Int) (by omega) (by omega)
 rw [Int.toNat_natCast] at hK hc0
 obtain rfl := k88_open hK
 exact ⟨_, ad, rfl, e, ⟨fun j v hj => by rw [add_add]; exact hc0 j v hj⟩⟩
/-! ### res -/
structure At66 (w : World) (p : Addr) (t : S66) : Prop where
 cells : ∀ j v, [.bool t.f0, .int .i64 t.f1][j]? = some v → w.cell? (p.add j) = some v
theorem At66.below {w w1 : World} {p : Addr} {t : S66} (h : At66 w p t) (hB : Below w.heap.size w w1) : At66 w1 p t := ⟨fun j v hj => (hB.cell (World.block_lt_of_cell? w _ (h.cells j v hj))).trans (h.cells j v hj)⟩
theorem At66.made (w : World) (t : S66) : At66 (w.alloc (.cells #[.bool t.f0, .int .i64 t.f1] 66)) ⟨w.heap.size, 0, none⟩ t := ⟨fun j v hj => box_at (cs := [.bool t.f0, .int .i64 t.f1]) (e := 66) j v hj⟩
theorem At66.g0 {w : World} {p : Addr} {t : S66} (h : At66 w p t) : w.cell? p = some (.bool t.f0) := h.cells 0 _ rfl
theorem At66.g1 {w : World} {p : Addr} {t : S66} (h : At66 w p t) : w.cell? ⟨p.block, p.off + 1, none⟩ = some (.int .i64 t.f1) := h.cells 1 _ rfl
theorem agg66 (w : World) : (isAgg 66).run Try.prog w = .ok true w := by kernel_rfl
theorem size66 (w : World) : (sizeOf 66).run Try.prog w = .ok 2 w := by kernel_rfl
theorem run66 {w : World} {p : Addr} {t : S66} (hX : At66 w p t) (y : Operand) (ho : o.op = .load 66 y) (hy : a.eval y = .pointer (some p)) : (execOp a.eval o).run Try.prog w = .ok (.value (.agg #[.bool t.f0, .int .i64 t.f1])) w := by
 have hl := load_agg (w := w) (t := 66) (n := 2) (a := p) (cs := [.bool t.f0, .int .i64 t.f1]) agg66 size66 rfl hX.cells
 simp only [execOp, ho, hy]
 simp [hl, Result.andThen]
theorem load66 {Q : Exit → Act → World → Prop} {w : World} {p : Addr} {t : S66} (hX : At66 w p t) (hgd : o.guard = none) (y : Operand) (ho : o.op = .load 66 y) (hy : a.eval y = .pointer (some p)) (h : wpList Try.prog ops Q rest (a.put o.dst (.agg #[.bool t.f0, .int .i64 t.f1])) w) : wpList Try.prog ops Q (o :: rest) a w :=
 Kd.event_run hgd (v := .agg #[.bool t.f0, .int .i64 t.f1]) (run66 hX y ho hy) h
theorem store66 {Q : Exit → Act → World → Prop} {w : World} {z : Array Value} (hz : z.size = 2) (cs : Array Value) (hcs : cs.size = 2) (h1 : cs.all (·.oneCell') = true) (hgd : o.guard = none) (x y : Operand) (ho : o.op = .store 66 x y) (hx : a.eval x = .pointer (some ⟨w.heap.size, 0, none⟩)) (hy : a.eval y = .agg cs) (hd : o.dst = none)
  (h : wpList Try.prog ops Q rest a (w.alloc (.cells cs 66))) : wpList Try.prog ops Q (o :: rest) a (w.alloc (.cells z 66)) :=
 wpList_plain hgd fun _ hK => by
  have hr := run_storeVar_new (P := Try.prog) w 66 z cs (by rw [hcs]; kernel_rfl) (by omega) h1
  unfold Oper.wp execOp
  simp only [ho, hx, hy, Instr.storeAt, Instr.sureAddr, Sem.run_bind, Sem.run_pure, Result.andThen_ok, hr]
  refine hK _ _ ?_
  rw [hd]
  exact h
theorem res_at {w : World} {A : Option Addr} {xs : List S66} (h : k66.C w A xs.length xs) (k : Nat) (hk : k < xs.length) : ∃ t ad, xs.getD k z66 = t ∧ A = some ad ∧ At66 w (ad.add (k * 2)) t := by
 obtain ⟨ad, c, e, _, hK, hc0⟩ := Kd.C_get h z66 (k : Int) (by omega) (by omega)
 rw [Int.toNat_natCast] at hK hc0
 obtain rfl := k66_open hK
 exact ⟨_, ad, rfl, e, ⟨fun j v hj => by rw [add_add]; exact hc0 j v hj⟩⟩
/-! ### ctr -/
structure At95 (w : World) (p : Addr) (t : S95) : Prop where
 cells : ∀ j v, [.int .u32 t.f0, .int .u32 t.f1, .int .u32 t.f2][j]? = some v → w.cell? (p.add j) = some v
theorem At95.below {w w1 : World} {p : Addr} {t : S95} (h : At95 w p t) (hB : Below w.heap.size w w1) : At95 w1 p t := ⟨fun j v hj => (hB.cell (World.block_lt_of_cell? w _ (h.cells j v hj))).trans (h.cells j v hj)⟩
theorem At95.made (w : World) (t : S95) : At95 (w.alloc (.cells #[.int .u32 t.f0, .int .u32 t.f1, .int .u32 t.f2] 95)) ⟨w.heap.size, 0, none⟩ t := ⟨fun j v hj => box_at (cs := [.int .u32 t.f0, .int .u32 t.f1, .int .u32 t.f2]) (e := 95) j v hj⟩
theorem At95.g0 {w : World} {p : Addr} {t : S95} (h : At95 w p t) : w.cell? p = some (.int .u32 t.f0) := h.cells 0 _ rfl
theorem At95.g1 {w : World} {p : Addr} {t : S95} (h : At95 w p t) : w.cell? ⟨p.block, p.off + 1, none⟩ = some (.int .u32 t.f1) := h.cells 1 _ rfl
theorem At95.g2 {w : World} {p : Addr} {t : S95} (h : At95 w p t) : w.cell? ⟨p.block, p.off + 2, none⟩ = some (.int .u32 t.f2) := h.cells 2 _ rfl
theorem agg95 (w : World) : (isAgg 95).run Try.prog w = .ok true w := by kernel_rfl
theorem size95 (w : World) : (sizeOf 95).run Try.prog w = .ok 3 w := by kernel_rfl
theorem run95 {w : World} {p : Addr} {t : S95} (hX : At95 w p t) (y : Operand) (ho : o.op = .load 95 y) (hy : a.eval y = .pointer (some p)) : (execOp a.eval o).run Try.prog w = .ok (.value (.agg #[.int .u32 t.f0, .int .u32 t.f1, .int .u32 t.f2])) w := by
 have hl := load_agg (w := w) (t := 95) (n := 3) (a := p) (cs := [.int .u32 t.f0, .int .u32 t.f1, .int .u32 t.f2]) agg95 size95 rfl hX.cells
 simp only [execOp, ho, hy]
 simp [hl, Result.andThen]
theorem load95 {Q : Exit → Act → World → Prop} {w : World} {p : Addr} {t : S95} (hX : At95 w p t) (hgd : o.guard = none) (y : Operand) (ho : o.op = .load 95 y) (hy : a.eval y = .pointer (some p)) (h : wpList Try.prog ops Q rest (a.put o.dst (.agg #[.int .u32 t.f0, .int .u32 t.f1, .int .u32 t.f2])) w) : wpList Try.prog ops Q (o :: rest) a w :=
 Kd.event_run hgd (v := .agg #[.int .u32 t.f0, .int .u32 t.f1, .int .u32 t.f2]) (run95 hX y ho hy) h
theorem store95 {Q : Exit → Act → World → Prop} {w : World} {z : Array Value} (hz : z.size = 3) (cs : Array Value) (hcs : cs.size = 3) (h1 : cs.all (·.oneCell') = true) (hgd : o.guard = none) (x y : Operand) (ho : o.op = .store 95 x y) (hx : a.eval x = .pointer (some ⟨w.heap.size, 0, none⟩)) (hy : a.eval y = .agg cs) (hd : o.dst = none)
  (h : wpList Try.prog ops Q rest a (w.alloc (.cells cs 95))) : wpList Try.prog ops Q (o :: rest) a (w.alloc (.cells z 95)) :=
 wpList_plain hgd fun _ hK => by
  have hr := run_storeVar_new (P := Try.prog) w 95 z cs (by rw [hcs]; kernel_rfl) (by omega) h1
  unfold Oper.wp execOp
  simp only [ho, hx, hy, Instr.storeAt, Instr.sureAddr, Sem.run_bind, Sem.run_pure, Result.andThen_ok, hr]
  refine hK _ _ ?_
  rw [hd]
  exact h
theorem ctr_at {w : World} {A : Option Addr} {xs : List S95} (h : k95.C w A xs.length xs) (k : Nat) (hk : k < xs.length) : ∃ t ad, xs.getD k z95 = t ∧ A = some ad ∧ At95 w (ad.add (k * 3)) t := by
 obtain ⟨ad, c, e, _, hK, hc0⟩ := Kd.C_get h z95 (k : Int) (by omega) (by omega)
 rw [Int.toNat_natCast] at hK hc0
 obtain rfl := k95_open hK
 exact ⟨_, ad, rfl, e, ⟨fun j v hj => by rw [add_add]; exact hc0 j v hj⟩⟩
/-! ### act -/
structure At100 (w : World) (p : Addr) (t : S100) : Prop where
 cells : ∀ j v, [.int .i64 t.f0, .int .i64 t.f1, .int .u32 t.f2][j]? = some v → w.cell? (p.add j) = some v
theorem At100.below {w w1 : World} {p : Addr} {t : S100} (h : At100 w p t) (hB : Below w.heap.size w w1) : At100 w1 p t := ⟨fun j v hj => (hB.cell (World.block_lt_of_cell? w _ (h.cells j v hj))).trans (h.cells j v hj)⟩
theorem At100.made (w : World) (t : S100) : At100 (w.alloc (.cells #[.int .i64 t.f0, .int .i64 t.f1, .int .u32 t.f2] 100)) ⟨w.heap.size, 0, none⟩ t := ⟨fun j v hj => box_at (cs := [.int .i64 t.f0, .int .i64 t.f1, .int .u32 t.f2]) (e := 100) j v hj⟩
theorem At100.g0 {w : World} {p : Addr} {t : S100} (h : At100 w p t) : w.cell? p = some (.int .i64 t.f0) := h.cells 0 _ rfl
theorem At100.g1 {w : World} {p : Addr} {t : S100} (h : At100 w p t) : w.cell? ⟨p.block, p.off + 1, none⟩ = some (.int .i64 t.f1) := h.cells 1 _ rfl
theorem At100.g2 {w : World} {p : Addr} {t : S100} (h : At100 w p t) : w.cell? ⟨p.block, p.off + 2, none⟩ = some (.int .u32 t.f2) := h.cells 2 _ rfl
theorem agg100 (w : World) : (isAgg 100).run Try.prog w = .ok true w := by kernel_rfl
theorem size100 (w : World) : (sizeOf 100).run Try.prog w = .ok 3 w := by kernel_rfl
theorem run100 {w : World} {p : Addr} {t : S100} (hX : At100 w p t) (y : Operand) (ho : o.op = .load 100 y) (hy : a.eval y = .pointer (some p)) : (execOp a.eval o).run Try.prog w = .ok (.value (.agg #[.int .i64 t.f0, .int .i64 t.f1, .int .u32 t.f2])) w := by
 have hl := load_agg (w := w) (t := 100) (n := 3) (a := p) (cs := [.int .i64 t.f0, .int .i64 t.f1, .int .u32 t.f2]) agg100 size100 rfl hX.cells
 simp only [execOp, ho, hy]
 simp [hl, Result.andThen]
theorem load100 {Q : Exit → Act → World → Prop} {w : World} {p : Addr} {t : S100} (hX : At100 w p t) (hgd : o.guard = none) (y : Operand) (ho : o.op = .load 100 y) (hy : a.eval y = .pointer (some p)) (h : wpList Try.prog ops Q rest (a.put o.dst (.agg #[.int .i64 t.f0, .int .i64 t.f1, .int .u32 t.f2])) w) : wpList Try.prog ops Q (o :: rest) a w :=
 Kd.event_run hgd (v := .agg #[.int .i64 t.f0, .int .i64 t.f1, .int .u32 t.f2]) (run100 hX y ho hy) h
/-! ### alm -/
structure At102 (w : World) (p : Addr) (t : S102) : Prop where
 cells : ∀ j v, [.int .i64 t.f0, .int .i64 t.f1.f0, .int .i64 t.f1.f1, .int .u32 t.f1.f2, .int .u32 t.f2, .int .u32 t.f3, .int .u32 t.f4][j]? = some v → w.cell? (p.add j) = some v
theorem At102.below {w w1 : World} {p : Addr} {t : S102} (h : At102 w p t) (hB : Below w.heap.size w w1) : At102 w1 p t := ⟨fun j v hj => (hB.cell (World.block_lt_of_cell? w _ (h.cells j v hj))).trans (h.cells j v hj)⟩
theorem At102.made (w : World) (t : S102) : At102 (w.alloc (.cells #[.int .i64 t.f0, .int .i64 t.f1.f0, .int .i64 t.f1.f1, .int .u32 t.f1.f2, .int .u32 t.f2, .int .u32 t.f3, .int .u32 t.f4] 102)) ⟨w.heap.size, 0, none⟩ t := ⟨fun j v hj => box_at (cs := [.int .i64 t.f0, .int .i64 t.f1.f0, .int .i64 t.f1.f1, .int .u32 t.f1.f2, .int .u32 t.f2, .int .u32 t.f3, .int .u32 t.f4]) (e := 102) j v hj⟩
theorem At102.g0 {w : World} {p : Addr} {t : S102} (h : At102 w p t) : w.cell? p = some (.int .i64 t.f0) := h.cells 0 _ rfl
theorem At102.g1 {w : World} {p : Addr} {t : S102} (h : At102 w p t) : w.cell? ⟨p.block, p.off + 1, none⟩ = some (.int .i64 t.f1.f0) := h.cells 1 _ rfl
theorem At102.g2 {w : World} {p : Addr} {t : S102} (h : At102 w p t) : w.cell? ⟨p.block, p.off + 2, none⟩ = some (.int .i64 t.f1.f1) := h.cells 2 _ rfl
theorem At102.g3 {w : World} {p : Addr} {t : S102} (h : At102 w p t) : w.cell? ⟨p.block, p.off + 3, none⟩ = some (.int .u32 t.f1.f2) := h.cells 3 _ rfl
theorem At102.g4 {w : World} {p : Addr} {t : S102} (h : At102 w p t) : w.cell? ⟨p.block, p.off + 4, none⟩ = some (.int .u32 t.f2) := h.cells 4 _ rfl
theorem At102.g5 {w : World} {p : Addr} {t : S102} (h : At102 w p t) : w.cell? ⟨p.block, p.off + 5, none⟩ = some (.int .u32 t.f3) := h.cells 5 _ rfl
theorem At102.g6 {w : World} {p : Addr} {t : S102} (h : At102 w p t) : w.cell? ⟨p.block, p.off + 6, none⟩ = some (.int .u32 t.f4) := h.cells 6 _ rfl
theorem agg102 (w : World) : (isAgg 102).run Try.prog w = .ok true w := by kernel_rfl
theorem size102 (w : World) : (sizeOf 102).run Try.prog w = .ok 7 w := by kernel_rfl
theorem run102 {w : World} {p : Addr} {t : S102} (hX : At102 w p t) (y : Operand) (ho : o.op = .load 102 y) (hy : a.eval y = .pointer (some p)) : (execOp a.eval o).run Try.prog w = .ok (.value (.agg #[.int .i64 t.f0, .int .i64 t.f1.f0, .int .i64 t.f1.f1, .int .u32 t.f1.f2, .int .u32 t.f2, .int .u32 t.f3, .int .u32 t.f4])) w := by
 have hl := load_agg (w := w) (t := 102) (n := 7) (a := p) (cs := [.int .i64 t.f0, .int .i64 t.f1.f0, .int .i64 t.f1.f1, .int .u32 t.f1.f2, .int .u32 t.f2, .int .u32 t.f3, .int .u32 t.f4]) agg102 size102 rfl hX.cells
 simp only [execOp, ho, hy]
 simp [hl, Result.andThen]
theorem load102 {Q : Exit → Act → World → Prop} {w : World} {p : Addr} {t : S102} (hX : At102 w p t) (hgd : o.guard = none) (y : Operand) (ho : o.op = .load 102 y) (hy : a.eval y = .pointer (some p)) (h : wpList Try.prog ops Q rest (a.put o.dst (.agg #[.int .i64 t.f0, .int .i64 t.f1.f0, .int .i64 t.f1.f1, .int .u32 t.f1.f2, .int .u32 t.f2, .int .u32 t.f3, .int .u32 t.f4])) w) : wpList Try.prog ops Q (o :: rest) a w :=
 Kd.event_run hgd (v := .agg #[.int .i64 t.f0, .int .i64 t.f1.f0, .int .i64 t.f1.f1, .int .u32 t.f1.f2, .int .u32 t.f2, .int .u32 t.f3, .int .u32 t.f4]) (run102 hX y ho hy) h
theorem store102 {Q : Exit → Act → World → Prop} {w : World} {z : Array Value} (hz : z.size = 7) (cs : Array Value) (hcs : cs.size = 7) (h1 : cs.all (·.oneCell') = true) (hgd : o.guard = none) (x y : Operand) (ho : o.op = .store 102 x y) (hx : a.eval x = .pointer (some ⟨w.heap.size, 0, none⟩)) (hy : a.eval y = .agg cs) (hd : o.dst = none)
  (h : wpList Try.prog ops Q rest a (w.alloc (.cells cs 102))) : wpList Try.prog ops Q (o :: rest) a (w.alloc (.cells z 102)) :=
 wpList_plain hgd fun _ hK => by
  have hr := run_storeVar_new (P := Try.prog) w 102 z cs (by rw [hcs]; kernel_rfl) (by omega) h1
  unfold Oper.wp execOp
  simp only [ho, hx, hy, Instr.storeAt, Instr.sureAddr, Sem.run_bind, Sem.run_pure, Result.andThen_ok, hr]
  refine hK _ _ ?_
  rw [hd]
  exact h
theorem alm_at {w : World} {A : Option Addr} {xs : List S102} (h : k102.C w A xs.length xs) (k : Nat) (hk : k < xs.length) : ∃ t ad, xs.getD k z102 = t ∧ A = some ad ∧ At102 w (ad.add (k * 7)) t := by
 obtain ⟨ad, c, e, _, hK, hc0⟩ := Kd.C_get h z102 (k : Int) (by omega) (by omega)
 rw [Int.toNat_natCast] at hK hc0
 obtain rfl := k102_open hK
 exact ⟨_, ad, rfl, e, ⟨fun j v hj => by rw [add_add]; exact hc0 j v hj⟩⟩
/-! ### isr -/
structure At107 (w : World) (p : Addr) (t : S107) (A2 : Option Addr) (c2 : Nat) : Prop where
 cells : ∀ j v, [.int .i64 t.f0, .int .i64 t.f1, .slice A2 t.f2.length c2][j]? = some v → w.cell? (p.add j) = some v
theorem At107.below {w w1 : World} {p : Addr} {t : S107} {A2 : Option Addr} {c2 : Nat} (h : At107 w p t A2 c2) (hB : Below w.heap.size w w1) : At107 w1 p t A2 c2 := ⟨fun j v hj => (hB.cell (World.block_lt_of_cell? w _ (h.cells j v hj))).trans (h.cells j v hj)⟩
theorem At107.made (w : World) (t : S107) (A2 : Option Addr) (c2 : Nat) : At107 (w.alloc (.cells #[.int .i64 t.f0, .int .i64 t.f1, .slice A2 t.f2.length c2] 107)) ⟨w.heap.size, 0, none⟩ t A2 c2 := ⟨fun j v hj => box_at (cs := [.int .i64 t.f0, .int .i64 t.f1, .slice A2 t.f2.length c2]) (e := 107) j v hj⟩
theorem At107.g0 {w : World} {p : Addr} {t : S107} {A2 : Option Addr} {c2 : Nat} (h : At107 w p t A2 c2) : w.cell? p = some (.int .i64 t.f0) := h.cells 0 _ rfl
theorem At107.g1 {w : World} {p : Addr} {t : S107} {A2 : Option Addr} {c2 : Nat} (h : At107 w p t A2 c2) : w.cell? ⟨p.block, p.off + 1, none⟩ = some (.int .i64 t.f1) := h.cells 1 _ rfl
theorem At107.g2 {w : World} {p : Addr} {t : S107} {A2 : Option Addr} {c2 : Nat} (h : At107 w p t A2 c2) : w.cell? ⟨p.block, p.off + 2, none⟩ = some (.slice A2 t.f2.length c2) := h.cells 2 _ rfl
theorem agg107 (w : World) : (isAgg 107).run Try.prog w = .ok true w := by kernel_rfl
theorem size107 (w : World) : (sizeOf 107).run Try.prog w = .ok 3 w := by kernel_rfl
theorem run107 {w : World} {p : Addr} {t : S107} {A2 : Option Addr} {c2 : Nat} (hX : At107 w p t A2 c2) (y : Operand) (ho : o.op = .load 107 y) (hy : a.eval y = .pointer (some p)) : (execOp a.eval o).run Try.prog w = .ok (.value (.agg #[.int .i64 t.f0, .int .i64 t.f1, .slice A2 t.f2.length c2])) w := by
 have hl := load_agg (w := w) (t := 107) (n := 3) (a := p) (cs := [.int .i64 t.f0, .int .i64 t.f1, .slice A2 t.f2.length c2]) agg107 size107 rfl hX.cells
 simp only [execOp, ho, hy]
 simp [hl, Result.andThen]
theorem load107 {Q : Exit → Act → World → Prop} {w : World} {p : Addr} {t : S107} {A2 : Option Addr} {c2 : Nat} (hX : At107 w p t A2 c2) (hgd : o.guard = none) (y : Operand) (ho : o.op = .load 107 y) (hy : a.eval y = .pointer (some p)) (h : wpList Try.prog ops Q rest (a.put o.dst (.agg #[.int .i64 t.f0, .int .i64 t.f1, .slice A2 t.f2.length c2])) w) : wpList Try.prog ops Q (o :: rest) a w :=
 Kd.event_run hgd (v := .agg #[.int .i64 t.f0, .int .i64 t.f1, .slice A2 t.f2.length c2]) (run107 hX y ho hy) h
theorem store107 {Q : Exit → Act → World → Prop} {w : World} {z : Array Value} (hz : z.size = 3) (cs : Array Value) (hcs : cs.size = 3) (h1 : cs.all (·.oneCell') = true) (hgd : o.guard = none) (x y : Operand) (ho : o.op = .store 107 x y) (hx : a.eval x = .pointer (some ⟨w.heap.size, 0, none⟩)) (hy : a.eval y = .agg cs) (hd : o.dst = none)
  (h : wpList Try.prog ops Q rest a (w.alloc (.cells cs 107))) : wpList Try.prog ops Q (o :: rest) a (w.alloc (.cells z 107)) :=
 wpList_plain hgd fun _ hK => by
  have hr := run_storeVar_new (P := Try.prog) w 107 z cs (by rw [hcs]; kernel_rfl) (by omega) h1
  unfold Oper.wp execOp
  simp only [ho, hx, hy, Instr.storeAt, Instr.sureAddr, Sem.run_bind, Sem.run_pure, Result.andThen_ok, hr]
  refine hK _ _ ?_
  rw [hd]
  exact h
theorem isr_at {w : World} {A : Option Addr} {xs : List S107} (h : k107.C w A xs.length xs) (k : Nat) (hk : k < xs.length) : ∃ t ad A2 c2, xs.getD k z107 = t ∧ A = some ad ∧ At107 w (ad.add (k * 3)) t A2 c2 ∧ t.f2.length ≤ c2 ∧ (Kd.int .i64).C w A2 t.f2.length t.f2 := by
 obtain ⟨ad, c, e, _, hK, hc0⟩ := Kd.C_get h z107 (k : Int) (by omega) (by omega)
 rw [Int.toNat_natCast] at hK hc0
 obtain ⟨A2, c2, rfl, l2, g2⟩ := k107_open hK
 exact ⟨_, ad, A2, c2, rfl, e, ⟨fun j v hj => by rw [add_add]; exact hc0 j v hj⟩, l2, g2⟩
/-! ### msg -/
structure At113 (w : World) (p : Addr) (t : S113) : Prop where
 cells : ∀ j v, [.int .i64 t.f0, .int .i64 t.f1, .int .i64 t.f2, .int .u64 t.f3, .int .i64 t.f4, .int .i64 t.f5.f0, .int .i64 t.f5.f1, .int .u32 t.f5.f2][j]? = some v → w.cell? (p.add j) = some v
theorem At113.below {w w1 : World} {p : Addr} {t : S113} (h : At113 w p t) (hB : Below w.heap.size w w1) : At113 w1 p t := ⟨fun j v hj => (hB.cell (World.block_lt_of_cell? w _ (h.cells j v hj))).trans (h.cells j v hj)⟩
theorem At113.made (w : World) (t : S113) : At113 (w.alloc (.cells #[.int .i64 t.f0, .int .i64 t.f1, .int .i64 t.f2, .int .u64 t.f3, .int .i64 t.f4, .int .i64 t.f5.f0, .int .i64 t.f5.f1, .int .u32 t.f5.f2] 113)) ⟨w.heap.size, 0, none⟩ t := ⟨fun j v hj => box_at (cs := [.int .i64 t.f0, .int .i64 t.f1, .int .i64 t.f2, .int .u64 t.f3, .int .i64 t.f4, .int .i64 t.f5.f0, .int .i64 t.f5.f1, .int .u32 t.f5.f2]) (e := 113) j v hj⟩
theorem At113.g0 {w : World} {p : Addr} {t : S113} (h : At113 w p t) : w.cell? p = some (.int .i64 t.f0) := h.cells 0 _ rfl
theorem At113.g1 {w : World} {p : Addr} {t : S113} (h : At113 w p t) : w.cell? ⟨p.block, p.off + 1, none⟩ = some (.int .i64 t.f1) := h.cells 1 _ rfl
theorem At113.g2 {w : World} {p : Addr} {t : S113} (h : At113 w p t) : w.cell? ⟨p.block, p.off + 2, none⟩ = some (.int .i64 t.f2) := h.cells 2 _ rfl
theorem At113.g3 {w : World} {p : Addr} {t : S113} (h : At113 w p t) : w.cell? ⟨p.block, p.off + 3, none⟩ = some (.int .u64 t.f3) := h.cells 3 _ rfl
theorem At113.g4 {w : World} {p : Addr} {t : S113} (h : At113 w p t) : w.cell? ⟨p.block, p.off + 4, none⟩ = some (.int .i64 t.f4) := h.cells 4 _ rfl
theorem At113.g5 {w : World} {p : Addr} {t : S113} (h : At113 w p t) : w.cell? ⟨p.block, p.off + 5, none⟩ = some (.int .i64 t.f5.f0) := h.cells 5 _ rfl
theorem At113.g6 {w : World} {p : Addr} {t : S113} (h : At113 w p t) : w.cell? ⟨p.block, p.off + 6, none⟩ = some (.int .i64 t.f5.f1) := h.cells 6 _ rfl
theorem At113.g7 {w : World} {p : Addr} {t : S113} (h : At113 w p t) : w.cell? ⟨p.block, p.off + 7, none⟩ = some (.int .u32 t.f5.f2) := h.cells 7 _ rfl
theorem agg113 (w : World) : (isAgg 113).run Try.prog w = .ok true w := by kernel_rfl
theorem size113 (w : World) : (sizeOf 113).run Try.prog w = .ok 8 w := by kernel_rfl
theorem run113 {w : World} {p : Addr} {t : S113} (hX : At113 w p t) (y : Operand) (ho : o.op = .load 113 y) (hy : a.eval y = .pointer (some p)) : (execOp a.eval o).run Try.prog w = .ok (.value (.agg #[.int .i64 t.f0, .int .i64 t.f1, .int .i64 t.f2, .int .u64 t.f3, .int .i64 t.f4, .int .i64 t.f5.f0, .int .i64 t.f5.f1, .int .u32 t.f5.f2])) w := by
 have hl := load_agg (w := w) (t := 113) (n := 8) (a := p) (cs := [.int .i64 t.f0, .int .i64 t.f1, .int .i64 t.f2, .int .u64 t.f3, .int .i64 t.f4, .int .i64 t.f5.f0, .int .i64 t.f5.f1, .int .u32 t.f5.f2]) agg113 size113 rfl hX.cells
 simp only [execOp, ho, hy]
 simp [hl, Result.andThen]
theorem load113 {Q : Exit → Act → World → Prop} {w : World} {p : Addr} {t : S113} (hX : At113 w p t) (hgd : o.guard = none) (y : Operand) (ho : o.op = .load 113 y) (hy : a.eval y = .pointer (some p)) (h : wpList Try.prog ops Q rest (a.put o.dst (.agg #[.int .i64 t.f0, .int .i64 t.f1, .int .i64 t.f2, .int .u64 t.f3, .int .i64 t.f4, .int .i64 t.f5.f0, .int .i64 t.f5.f1, .int .u32 t.f5.f2])) w) : wpList Try.prog ops Q (o :: rest) a w :=
 Kd.event_run hgd (v := .agg #[.int .i64 t.f0, .int .i64 t.f1, .int .i64 t.f2, .int .u64 t.f3, .int .i64 t.f4, .int .i64 t.f5.f0, .int .i64 t.f5.f1, .int .u32 t.f5.f2]) (run113 hX y ho hy) h
theorem store113 {Q : Exit → Act → World → Prop} {w : World} {z : Array Value} (hz : z.size = 8) (cs : Array Value) (hcs : cs.size = 8) (h1 : cs.all (·.oneCell') = true) (hgd : o.guard = none) (x y : Operand) (ho : o.op = .store 113 x y) (hx : a.eval x = .pointer (some ⟨w.heap.size, 0, none⟩)) (hy : a.eval y = .agg cs) (hd : o.dst = none)
  (h : wpList Try.prog ops Q rest a (w.alloc (.cells cs 113))) : wpList Try.prog ops Q (o :: rest) a (w.alloc (.cells z 113)) :=
 wpList_plain hgd fun _ hK => by
  have hr := run_storeVar_new (P := Try.prog) w 113 z cs (by rw [hcs]; kernel_rfl) (by omega) h1
  unfold Oper.wp execOp
  simp only [ho, hx, hy, Instr.storeAt, Instr.sureAddr, Sem.run_bind, Sem.run_pure, Result.andThen_ok, hr]
  refine hK _ _ ?_
  rw [hd]
  exact h
theorem msg_at {w : World} {A : Option Addr} {xs : List S113} (h : k113.C w A xs.length xs) (k : Nat) (hk : k < xs.length) : ∃ t ad, xs.getD k z113 = t ∧ A = some ad ∧ At113 w (ad.add (k * 8)) t := by
 obtain ⟨ad, c, e, _, hK, hc0⟩ := Kd.C_get h z113 (k : Int) (by omega) (by omega)
 rw [Int.toNat_natCast] at hK hc0
 obtain rfl := k113_open hK
 exact ⟨_, ad, rfl, e, ⟨fun j v hj => by rw [add_add]; exact hc0 j v hj⟩⟩
end
theorem k33_open {w : World} {t : S33} {cs : List Value} (h : k33.K w t cs) (hb : Bd t) : ∃ V : TV, cs = (arr V t).toList ∧ Tb w V t := by
 obtain ⟨_, _, rfl, rfl, ⟨_, _, rfl, rfl, ⟨_, _, rfl, ⟨A2, c2, rfl, l2, g2⟩, ⟨_, _, rfl, ⟨A3, c3, rfl, l3, g3⟩, ⟨_, _, rfl, ⟨A4, c4, rfl, l4, g4⟩, ⟨_, _, rfl, ⟨A5, c5, rfl, l5, g5⟩, ⟨_, _, rfl, ⟨A6, c6, rfl, l6, g6⟩, ⟨_, _, rfl, ⟨A7, c7, rfl, l7, g7⟩, ⟨_, _, rfl, ⟨A8, c8, rfl, l8, g8⟩, ⟨_, _, rfl, rfl, ⟨_, _, rfl, rfl, ⟨_, _, rfl, rfl, rfl⟩⟩⟩⟩⟩⟩⟩⟩⟩⟩⟩⟩ := h
 exact ⟨⟨A2, A3, A4, A5, A6, A7, A8, c2, c3, c4, c5, c6, c7, c8⟩, rfl, ⟨hb, l2, g2, l3, g3, l4, g4, l5, g5, l6, g6, l7, g7, l8, g8⟩⟩
end Go.Proofs.Ytbgcemijihpakaa.XA
