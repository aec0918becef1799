/- the document's Copy of a configuration: the rows of its answer are its own. -/
import Derived.Test.YtflkbheginhfiaaHJ
import Derived.Laws.CopyOwn
import Derived.Test.YtflkbheginhfiaaHG
namespace Go.Proofs.Ytflkbheginhfiaa.XA
set_option linter.unusedVariables false
set_option linter.unusedSimpArgs false
open Go.RowKit Go.WideMaps Go.Maps Go.Proofs.YtflkbheginhfiaaW.PrintWords Go.Proofs.YtflkbheginhfiaaW.PrintLast Go.Proofs.YtflkbheginhfiaaW.PrintMore
section
variable {o : Oper} {a : Act}
theorem run73 {w : World} {ad : Addr} {k : Nat} {t : S73} (hX : ResAt w ad k t) (y : Operand) (ho : o.op = .load 73 y) (hy : a.eval y = .pointer (some (ad.add (k * 3)))) :
    (execOp a.eval o).run Try.prog w = .ok (.value (.agg #[.string t.f0, .int .i64 t.f1, .int .i64 t.f2])) w := by
  have hl := load_agg (w := w) (t := 73) (n := 3) (a := ad.add (k * 3)) agg73 size73 rfl hX.cells
  simp only [execOp, ho, hy]
  simp [hl, Result.andThen]
end
theorem ResAt.below {w w1 : World} {ad : Addr} {k : Nat} {t : S73} (h : ResAt w ad k t) (hB : Below w.heap.size w w1) : ResAt w1 ad k t :=
  ⟨fun j v hj => (hB.cell (World.block_lt_of_cell? w _ (h.cells j v hj))).trans (h.cells j v hj)⟩
def cpArr (b : Bool) (VT VR VI : Value) : Array Value := #[.string ⟨#[]⟩, .string ⟨#[]⟩, .bool false, .bool false, .bool false, .bool false, .bool false, .bool false, .bool false, .bool b, .slice none 0 0, VT, VR, .slice none 0 0, .slice none 0 0, .slice none 0 0, VI, .slice none 0 0]
def cpT (t : S64) : S64 := ⟨t.f0, t.f1, t.f2, 0, [], t.f5, [], []⟩
def cpI (t : S66) : S66 := ⟨t.f0, 0, t.f2, t.f3, []⟩
/-- what stands while the copy is made -/
structure Cp (x : CV) (AT : Option Addr) (cT : Nat) (AR : Option Addr) (cR : Nat) (AI : Option Addr) (cI : Nat) (nT nR nI : Nat) (b : Bool) (w0 : World) (VT VR VI : Value) (lT : List S64) (lR : List S73) (lI : List S66) (w : World) : Prop where
  box : BoxAt w w0.heap.size x AT cT AR cR AI cI nT nR nI
  zero : w.heap[w0.heap.size + 1]? = some (.cells (cpArr false (.slice none 0 0) (.slice none 0 0) (.slice none 0 0)) 36 (0, 0))
  d : w.heap[w0.heap.size + 1 + 1]? = some (.cells (cpArr b VT VR VI) 36 (0, 0))
  t : k64.R 64 w w0.heap.size (fun _ => True) VT lT
  r : k73.R 73 w w0.heap.size (fun _ => True) VR lR
  i : k66.R 66 w w0.heap.size (fun _ => True) VI lI
  bel : Below w0.heap.size w0 w
section
variable {x : CV} {AT : Option Addr} {cT : Nat} {AR : Option Addr} {cR : Nat} {AI : Option Addr} {cI : Nat} {nT nR nI : Nat} {b : Bool} {w0 w w1 : World} {VT VR VI : Value} {lT : List S64} {lR : List S73} {lI : List S66}
theorem Cp.below (h : Cp x AT cT AR cR AI cI nT nR nI b w0 VT VR VI lT lR lI w) (hB : Below w.heap.size w w1) : Cp x AT cT AR cR AI cI nT nR nI b w0 VT VR VI lT lR lI w1 :=
  ⟨h.box.below hB, (hB.block _ (blk_lt h.zero)).trans h.zero, (hB.block _ (blk_lt h.d)).trans h.d, Kd.R_below h.t hB, Kd.R_below h.r hB, Kd.R_below h.i hB, h.bel.trans (hB.mono h.bel.size)⟩
theorem Cp.cells (h : Cp x AT cT AR cR AI cI nT nR nI b w0 VT VR VI lT lR lI w) : w.cell? ⟨w0.heap.size + 1 + 1, 11, none⟩ = some VT ∧ w.cell? ⟨w0.heap.size + 1 + 1, 12, none⟩ = some VR ∧ w.cell? ⟨w0.heap.size + 1 + 1, 16, none⟩ = some VI ∧ ∀ i, w.frozen? ⟨w0.heap.size + 1 + 1, i, none⟩ = false := by
  have hc := h.d
  unfold cpArr at hc
  exact ⟨by simp [World.cell?, hc], by simp [World.cell?, hc], by simp [World.cell?, hc], fun i => by simp [World.frozen?, hc]⟩
/-- the three boxes stay where a row of another type grows and the copy's box is written -/
theorem boxes_set (h : Cp x AT cT AR cR AI cI nT nR nI b w0 VT VR VI lT lR lI w) {row : Option Nat} (hrow : ∀ k, row = some k → ∃ cs q, w.heap[k]? = some (.cells cs q (0, 0)) ∧ q ≠ 36) (hg : w.grownBy w1 row) (j : Nat) (v1 : Value) :
    BoxAt (w1.setCell ⟨w0.heap.size + 1 + 1, j, none⟩ v1) w0.heap.size x AT cT AR cR AI cI nT nR nI ∧ (w1.setCell ⟨w0.heap.size + 1 + 1, j, none⟩ v1).heap[w0.heap.size + 1]? = some (.cells (cpArr false (.slice none 0 0) (.slice none 0 0) (.slice none 0 0)) 36 (0, 0)) ∧ w1.heap[w0.heap.size + 1 + 1]? = some (.cells (cpArr b VT VR VI) 36 (0, 0)) := by
  have hne : ∀ k cs, w.heap[k]? = some (.cells cs 36 (0, 0)) → some k ≠ row := fun k cs hk e => by
    obtain ⟨cs2, q, h1, h2⟩ := hrow k e.symm
    rw [hk] at h1
    injection h1 with h1
    injection h1 with _ h1
    exact h2 h1.symm
  refine ⟨?_, ?_, (hg.block _ (blk_lt h.d) (hne _ _ h.d)).trans h.d⟩
  · exact (Below.heap_setCell w1 ⟨w0.heap.size + 1 + 1, j, none⟩ v1 w0.heap.size (by show w0.heap.size ≠ w0.heap.size + 1 + 1; omega)).trans ((hg.block _ h.box.lt (hne _ _ h.box)).trans h.box)
  · exact (Below.heap_setCell w1 ⟨w0.heap.size + 1 + 1, j, none⟩ v1 (w0.heap.size + 1) (by show w0.heap.size + 1 ≠ w0.heap.size + 1 + 1; omega)).trans ((hg.block _ (blk_lt h.zero) (hne _ _ h.zero)).trans h.zero)
theorem Cp.appT (h : Cp x AT cT AR cR AI cI nT nR nI b w0 VT VR VI lT lR lI w) (v1 : Value) (lT1 : List S64) (hr : k64.R 64 w1 w0.heap.size (fun _ => True) v1 lT1) (hb : Below w0.heap.size w0 w1) (hg : w.grownBy w1 VT.ownBlock) :
    Cp x AT cT AR cR AI cI nT nR nI b w0 v1 VR VI lT1 lR lI (w1.setCell ⟨w0.heap.size + 1 + 1, 11, none⟩ v1) := by
  have hty := Kd.R_typed h.t
  obtain ⟨b1, b2, b3⟩ := boxes_set h (fun k hk => by obtain ⟨cs, hc⟩ := hty k hk; exact ⟨cs, 64, hc, by decide⟩) hg 11 v1
  have hr2 := Kd.R_grown (Kd.R_apart' h.r hty (by decide)) hg (fun k hk => hk.2)
  have hi2 := Kd.R_grown (Kd.R_apart' h.i hty (by decide)) hg (fun k hk => hk.2)
  refine ⟨b1, b2, ?_, Kd.R_mono (Kd.R_far (p := ⟨w0.heap.size + 1 + 1, 11, none⟩) (Kd.R_types hr b3 (by decide)) (fun _ hk => hk.2) v1) (fun _ _ => trivial), Kd.R_mono (Kd.R_far (p := ⟨w0.heap.size + 1 + 1, 11, none⟩) (Kd.R_types hr2 b3 (by decide)) (fun _ hk => hk.2) v1) (fun _ _ => trivial), Kd.R_mono (Kd.R_far (p := ⟨w0.heap.size + 1 + 1, 11, none⟩) (Kd.R_types hi2 b3 (by decide)) (fun _ hk => hk.2) v1) (fun _ _ => trivial), hb.setCell (by show w0.heap.size ≤ w0.heap.size + 1 + 1; omega) v1⟩
  simp [World.setCell, Array.getElem?_modify, b3, cpArr]
theorem Cp.appR (h : Cp x AT cT AR cR AI cI nT nR nI b w0 VT VR VI lT lR lI w) (v1 : Value) (lR1 : List S73) (hr : k73.R 73 w1 w0.heap.size (fun _ => True) v1 lR1) (hb : Below w0.heap.size w0 w1) (hg : w.grownBy w1 VR.ownBlock) :
    Cp x AT cT AR cR AI cI nT nR nI b w0 VT v1 VI lT lR1 lI (w1.setCell ⟨w0.heap.size + 1 + 1, 12, none⟩ v1) := by
  have hty := Kd.R_typed h.r
  obtain ⟨b1, b2, b3⟩ := boxes_set h (fun k hk => by obtain ⟨cs, hc⟩ := hty k hk; exact ⟨cs, 73, hc, by decide⟩) hg 12 v1
  have hr2 := Kd.R_grown (Kd.R_apart' h.t hty (by decide)) hg (fun k hk => hk.2)
  have hi2 := Kd.R_grown (Kd.R_apart' h.i hty (by decide)) hg (fun k hk => hk.2)
  refine ⟨b1, b2, ?_, Kd.R_mono (Kd.R_far (p := ⟨w0.heap.size + 1 + 1, 12, none⟩) (Kd.R_types hr2 b3 (by decide)) (fun _ hk => hk.2) v1) (fun _ _ => trivial), Kd.R_mono (Kd.R_far (p := ⟨w0.heap.size + 1 + 1, 12, none⟩) (Kd.R_types hr b3 (by decide)) (fun _ hk => hk.2) v1) (fun _ _ => trivial), Kd.R_mono (Kd.R_far (p := ⟨w0.heap.size + 1 + 1, 12, none⟩) (Kd.R_types hi2 b3 (by decide)) (fun _ hk => hk.2) v1) (fun _ _ => trivial), hb.setCell (by show w0.heap.size ≤ w0.heap.size + 1 + 1; omega) v1⟩
  simp [World.setCell, Array.getElem?_modify, b3, cpArr]
theorem Cp.appI (h : Cp x AT cT AR cR AI cI nT nR nI b w0 VT VR VI lT lR lI w) (v1 : Value) (lI1 : List S66) (hr : k66.R 66 w1 w0.heap.size (fun _ => True) v1 lI1) (hb : Below w0.heap.size w0 w1) (hg : w.grownBy w1 VI.ownBlock) :
    Cp x AT cT AR cR AI cI nT nR nI b w0 VT VR v1 lT lR lI1 (w1.setCell ⟨w0.heap.size + 1 + 1, 16, none⟩ v1) := by
  have hty := Kd.R_typed h.i
  obtain ⟨b1, b2, b3⟩ := boxes_set h (fun k hk => by obtain ⟨cs, hc⟩ := hty k hk; exact ⟨cs, 66, hc, by decide⟩) hg 16 v1
  have hr2 := Kd.R_grown (Kd.R_apart' h.t hty (by decide)) hg (fun k hk => hk.2)
  have hi2 := Kd.R_grown (Kd.R_apart' h.r hty (by decide)) hg (fun k hk => hk.2)
  refine ⟨b1, b2, ?_, Kd.R_mono (Kd.R_far (p := ⟨w0.heap.size + 1 + 1, 16, none⟩) (Kd.R_types hr2 b3 (by decide)) (fun _ hk => hk.2) v1) (fun _ _ => trivial), Kd.R_mono (Kd.R_far (p := ⟨w0.heap.size + 1 + 1, 16, none⟩) (Kd.R_types hi2 b3 (by decide)) (fun _ hk => hk.2) v1) (fun _ _ => trivial), Kd.R_mono (Kd.R_far (p := ⟨w0.heap.size + 1 + 1, 16, none⟩) (Kd.R_types hr b3 (by decide)) (fun _ hk => hk.2) v1) (fun _ _ => trivial), hb.setCell (by show w0.heap.size ≤ w0.heap.size + 1 + 1; omega) v1⟩
  simp [World.setCell, Array.getElem?_modify, b3, cpArr]
end
set_option maxRecDepth 1000000 in
set_option maxHeartbeats 4000000 in
theorem copy_start (x : CV) (AT : Option Addr) (cT : Nat) (AR : Option Addr) (cR : Nat) (AI : Option Addr) (cI : Nat) (nT nR nI : Nat) (w : World) :
    Cp x AT cT AR cR AI cI nT nR nI x.b9 w (.slice none 0 0) (.slice none 0 0) (.slice none 0 0) [] [] [] (((w.alloc (.cells (x.arr AT cT AR cR AI cI nT nR nI) 36)).alloc (.cells (cpArr false (.slice none 0 0) (.slice none 0 0) (.slice none 0 0)) 36)).alloc (.cells (cpArr x.b9 (.slice none 0 0) (.slice none 0 0) (.slice none 0 0)) 36)) := by
  have h1 := BoxAt.made w x AT cT AR cR AI cI nT nR nI
  have h2 := heap_alloc_new (w.alloc (.cells (x.arr AT cT AR cR AI cI nT nR nI) 36)) (.cells (cpArr false (.slice none 0 0) (.slice none 0 0) (.slice none 0 0)) 36)
  have h3 := heap_alloc_new ((w.alloc (.cells (x.arr AT cT AR cR AI cI nT nR nI) 36)).alloc (.cells (cpArr false (.slice none 0 0) (.slice none 0 0) (.slice none 0 0)) 36)) (.cells (cpArr x.b9 (.slice none 0 0) (.slice none 0 0) (.slice none 0 0)) 36)
  rw [World.size_alloc] at h2
  rw [World.size_alloc, World.size_alloc] at h3
  have hb2 : ∀ (v : World) (o : Obj), Below v.heap.size v (v.alloc o) := fun v o => (Below.refl _ _).alloc (Nat.le_refl _) o
  refine ⟨(h1.below (hb2 _ _)).below (hb2 _ _), ?_, h3, Kd.R_nil _ _ _ _ _, Kd.R_nil _ _ _ _ _, Kd.R_nil _ _ _ _ _, ?_⟩
  · exact ((hb2 _ _).block _ (blk_lt h2)).trans h2
  · exact (((hb2 _ _).trans ((hb2 _ _).mono (by rw [World.size_alloc]; omega))).trans ((hb2 _ _).mono (by rw [World.size_alloc, World.size_alloc]; omega)))
theorem task_cells5 {w : World} {A : Option Addr} {ts : List S64} (h : k64.C w A ts.length ts) (k : Nat) (hk : k < ts.length) :
    ∃ ad A4 c4 A5 c5 A6 c6 A7 c7, A = some ad ∧ TaskAt w ad k (ts.getD k z64) A4 c4 A5 c5 A6 c6 A7 c7 ∧ (Kd.int .i64).C w A5 (ts.getD k z64).f5.length (ts.getD k z64).f5 := by
  obtain ⟨ad, A4, c4, A5, c5, A6, c6, A7, c7, e, h1, _, h2⟩ := task_cells h k hk
  exact ⟨ad, A4, c4, A5, c5, A6, c6, A7, c7, e, h1, h2⟩
theorem take_snocm {α β : Type} (f : α → β) (l : List α) (z : α) (k : Nat) (hk : k < l.length) : (l.take (k + 1)).map f = (l.take k).map f ++ [f (l.getD k z)] := by
  rw [List.take_succ_eq_append_getElem hk, List.map_append]
  simp [List.getD, hk]
theorem take_len {α β : Type} (f : α → β) (l : List α) (k : Nat) (hk : k ≤ l.length) : ((l.take k).map f).length = k := by
  simp; omega
theorem take_len0 {α : Type} (l : List α) (k : Nat) (hk : k ≤ l.length) : (l.take k).length = k := by
  simp; omega
theorem Cp.dcell {x : CV} {AT : Option Addr} {cT : Nat} {AR : Option Addr} {cR : Nat} {AI : Option Addr} {cI : Nat} {nT nR nI : Nat} {b : Bool} {w0 w w1 : World} {VT VR VI : Value} {lT : List S64} {lR : List S73} {lI : List S66} (h : Cp x AT cT AR cR AI cI nT nR nI b w0 VT VR VI lT lR lI w) {row : Option Nat} (hrow : ∀ k, row = some k → ∃ cs q, w.heap[k]? = some (.cells cs q (0, 0)) ∧ q ≠ 36) (hg : w.grownBy w1 row) :
    w1.cell? ⟨w0.heap.size + 1 + 1, 11, none⟩ = some VT ∧ w1.cell? ⟨w0.heap.size + 1 + 1, 12, none⟩ = some VR ∧ w1.cell? ⟨w0.heap.size + 1 + 1, 16, none⟩ = some VI ∧ ∀ i, w1.frozen? ⟨w0.heap.size + 1 + 1, i, none⟩ = false := by
  have hc := (boxes_set h hrow hg 0 (.bool false)).2.2
  unfold cpArr at hc
  exact ⟨by simp [World.cell?, hc], by simp [World.cell?, hc], by simp [World.cell?, hc], fun i => by simp [World.frozen?, hc]⟩
theorem row_ty {α : Type} {d : Kd α} {e : Nat} {w : World} {b : Nat} {ok : Nat → Prop} {v : Value} {xs : List α} (h : d.R e w b ok v xs) (he : e ≠ 36) : ∀ k, v.ownBlock = some k → ∃ cs q, w.heap[k]? = some (.cells cs q (0, 0)) ∧ q ≠ 36 := fun k hk => by
  obtain ⟨cs, hc⟩ := Kd.R_typed h k hk
  exact ⟨cs, e, hc, he⟩
section
variable {ops : Array Oper} {rest : List Oper} {o : Oper} {a : Act} {Q : Exit → Act → World → Prop}
theorem store36 {w : World} {B : Nat} {old : Array Value} (hg : w.heap[B]? = some (.cells old 36 (0, 0))) (hold : old.size = 18) (cs : Array Value) (hcs : cs.size = 18) (h1 : cs.all (·.oneCell') = true) (hgd : o.guard = none) (x y : Operand) (ho : o.op = .store 36 x y) (hx : a.eval x = .pointer (some ⟨B, 0, none⟩)) (hy : a.eval y = .agg cs)
    (h : wpList Try.prog ops Q rest (a.put o.dst undef) (w.setRow B cs)) : wpList Try.prog ops Q (o :: rest) a w :=
  wpList_plain hgd fun _ hK => wp_store_row 36 x y ho B cs hx hy 36 old hg (by rw [hcs]; kernel_rfl) (by omega) h1 (hK _ _ h)
end
set_option maxRecDepth 1000000 in
set_option maxHeartbeats 4000000 in
theorem copy_calls (x : CV) (AT : Option Addr) (cT : Nat) (AR : Option Addr) (cR : Nat) (AI : Option Addr) (cI : Nat) (ts : List S64) (rs : List S73) (is : List S66) (w : World) (g : Good AT cT AR cR AI cI ts rs is w) (htb : ts.length * 136 ≤ 140737488355328) (hib : is.length * 80 ≤ 140737488355328) (hts : ∀ k, k < ts.length → (ts.getD k z64).f5.length ≤ 17592186044416) (his : ∀ k, k < is.length → (is.getD k z66).f3.length ≤ 17592186044416) :
    Calls Try.prog 10 #[.agg #[.string x.s0, .string x.s1, .bool x.b2, .bool x.b3, .bool x.b4, .bool x.b5, .bool x.b6, .bool x.b7, .bool x.b8, .bool x.b9, .slice x.A10 x.n10 x.c10, .slice AT ts.length cT, .slice AR rs.length cR, .slice x.A13 x.n13 x.c13, .slice x.A14 x.n14 x.c14, .slice x.A15 x.n15 x.c15, .slice AI is.length cI, .slice x.A17 x.n17 x.c17]] w fun e w' => Below w.heap.size w w' ∧ ∃ AT2 dT AR2 dR AI2 dI, e = .returned (.agg (cpArr x.b9 (.slice AT2 ts.length dT) (.slice AR2 rs.length dR) (.slice AI2 is.length dI))) ∧ k64.R 64 w' w.heap.size (fun _ => True) (.slice AT2 ts.length dT) (ts.map cpT) ∧ k73.R 73 w' w.heap.size (fun _ => True) (.slice AR2 rs.length dR) rs ∧ k66.R 66 w' w.heap.size (fun _ => True) (.slice AI2 is.length dI) (is.map cpI) := by
  have HG := Aside0.mk g
  have HTS := Aside0.mk hts
  have HIS := Aside0.mk his
  have HTB := Aside0.mk htb
  have HIB := Aside0.mk hib
  have HC1 := Aside0.mk (copy_start x AT cT AR cR AI cI ts.length rs.length is.length w)
  unfold CV.arr cpArr at HC1
  have htz := g.t
  have hrz := g.r
  have hiz := g.i
  clear g hts his htb hib
  go_enter Try.func10, Try.ntmps10
  go_wp2_with fail
  generalize ((w.alloc (.cells #[.string x.s0, .string x.s1, .bool x.b2, .bool x.b3, .bool x.b4, .bool x.b5, .bool x.b6, .bool x.b7, .bool x.b8, .bool x.b9, .slice x.A10 x.n10 x.c10, .slice AT ts.length cT, .slice AR rs.length cR, .slice x.A13 x.n13 x.c13, .slice x.A14 x.n14 x.c14, .slice x.A15 x.n15 x.c15, .slice AI is.length cI, .slice x.A17 x.n17 x.c17] 36)).alloc (.cells #[.string ⟨#[]⟩, .string ⟨#[]⟩, .bool false, .bool false, .bool false, .bool false, .bool false, .bool false, .bool false, .bool false, .slice none 0 0, .slice none 0 0, .slice none 0 0, .slice none 0 0, .slice none 0 0, .slice none 0 0, .slice none 0 0, .slice none 0 0] 36)).alloc (.cells #[.string ⟨#[]⟩, .string ⟨#[]⟩, .bool false, .bool false, .bool false, .bool false, .bool false, .bool false, .bool false, .bool x.b9, .slice none 0 0, .slice none 0 0, .slice none 0 0, .slice none 0 0, .slice none 0 0, .slice none 0 0, .slice none 0 0, .slice none 0 0] 36) = w0 at *
  go_loopw [4] (fun i wr => ∃ (k : Nat) (VT : Value), k ≤ ts.length ∧ i = .int .i64 k ∧ Aside0 (Cp x AT cT AR cR AI cI ts.length rs.length is.length x.b9 w VT (.slice none 0 0) (.slice none 0 0) ((ts.take k).map cpT) [] [] wr)) (fun i _ => ts.length - (intOf i).toNat)
  case atStart => exact ⟨0, _, by omega, rfl, HC1⟩
  case round =>
    clear HC1
    obtain ⟨k, VT, hk, rfl, HS0⟩ := hrel
    have q11 := HS0.out.box.tasks
    by_cases hlt : k < ts.length
    · have hd : decide ((k : Int) < (ts.length : Int)) = true := decide_eq_true (by omega)
      have HLT := Aside0.mk (Nat.succ_le_of_lt hlt)
      obtain ⟨ad, A4, c4, A5, c5, A6, c6, A7, c7, e, hta, g5⟩ := task_cells5 (HG.out.cfg.below HS0.out.bel).t k hlt
      subst e
      have HL5 := Aside0.mk (HTS.out k hlt)
      have HTK := Aside0.mk (take_snocm cpT ts z64 k hlt)
      have HLN := Aside0.mk (take_len cpT ts k hk)
      have HTA := Aside0.mk hta
      have HG5 := Aside0.mk g5
      have HKB := Aside0.mk (show (k + 1) * 136 ≤ 140737488355328 by have := HTB.out; omega)
      clear hta g5
      generalize ts.getD k z64 = t at *
      generalize (ts.take k).map cpT = lT at *
      have hba : Below wr.heap.size wr (wr.alloc (.cells #[.string t.f0, .int .i64 t.f1, .bool t.f2, .int .i64 t.f3, .slice A4 t.f4.length c4, .slice A5 t.f5.length c5, .slice A6 t.f6.length c6, .slice A7 t.f7.length c7] 64)) := (Below.refl _ _).alloc (Nat.le_refl _) _
      have HSa := Aside0.mk (HS0.out.below hba)
      have HGa := Aside0.mk (Kd.C_below HG5.out hba)
      have HY := Aside0.mk (heap_alloc_new wr (.cells #[.string t.f0, .int .i64 t.f1, .bool t.f2, .int .i64 t.f3, .slice A4 t.f4.length c4, .slice A5 t.f5.length c5, .slice A6 t.f6.length c6, .slice A7 t.f7.length c7] 64))
      clear hba
      go_wp2_with (first | ((with_reducible refine gate_dst (N := 27) rfl ?_); refine load64 HTA.out rfl (.tmp 26) rfl rfl ?_))
      clear HS0 q11 HG5 HTA
      generalize wr.alloc (.cells #[.string t.f0, .int .i64 t.f1, .bool t.f2, .int .i64 t.f3, .slice A4 t.f4.length c4, .slice A5 t.f5.length c5, .slice A6 t.f6.length c6, .slice A7 t.f7.length c7] 64) = wo at *
      generalize wr.heap.size = Bt at *
      refine start_ (n := 17) (S := fun w_ => Below wo.heap.size wo w_) (ds := [14, 16]) #[false, false, false, false, false, false, false, false, false, false, false, false, false, false, false, false, false] (by kernel_rfl) rfl rfl (drew_below wo) (fun hHeld => ?_)
      have HH := Aside0.mk hHeld
      clear hHeld
      generalize wo.drew = wv at HH ⊢
      refine pure_ (i := 0) (N := some 28) (v := ?_) (a' := ?_) #[true, false, false, false, false, false, false, false, false, false, false, false, false, false, false, false, false] rfl rfl (by kernel_rfl) (fun _ _ _ h => h) (Or.inl ⟨by rfl, ?_⟩) ?_ ?_
      rotate_left
      · intro w_
        go_simp
        with_reducible rfl
      rotate_left
      · simp only [Act.put, List.setIfInBounds_toArray, List.set_cons_zero, List.set_cons_succ, i64_w, i32_w]
        rfl
      refine take_ (i := 1) (N := some 29) (v := ?_) (a' := ?_) #[true, true, false, false, false, false, false, false, false, false, false, false, false, false, false, false, false] rfl rfl (by kernel_rfl) (fun _ _ _ h => h) (Or.inl ⟨by rfl, ?_⟩) HH.out ?_ ?_
      rotate_left
      · rintro w_ s
        obtain ⟨p11, _⟩ := (HSa.out.below s).cells; have yy := (s.block _ (blk_lt HY.out)).trans HY.out; have y0 : w_.cell? ⟨Bt, 0, none⟩ = some (.string t.f0) := (by simp [World.cell?, yy]); have y1 : w_.cell? ⟨Bt, 1, none⟩ = some (.int .i64 t.f1) := (by simp [World.cell?, yy]); have y2 : w_.cell? ⟨Bt, 2, none⟩ = some (.bool t.f2) := (by simp [World.cell?, yy]); have y5 : w_.cell? ⟨Bt, 5, none⟩ = some (.slice A5 t.f5.length c5) := (by simp [World.cell?, yy]); clear yy
        go_simp
        with_reducible rfl
      rotate_left
      · simp only [Act.put, List.setIfInBounds_toArray, List.set_cons_zero, List.set_cons_succ, i64_w, i32_w]
        rfl
      refine pure_ (i := 2) (N := some 30) (v := ?_) (a' := ?_) #[true, true, true, false, false, false, false, false, false, false, false, false, false, false, false, false, false] rfl rfl (by kernel_rfl) (fun _ _ _ h => h) (Or.inl ⟨by rfl, ?_⟩) ?_ ?_
      rotate_left
      · intro w_
        go_simp
        with_reducible rfl
      rotate_left
      · simp only [Act.put, List.setIfInBounds_toArray, List.set_cons_zero, List.set_cons_succ, i64_w, i32_w]
        rfl
      refine take_ (i := 3) (N := some 31) (v := ?_) (a' := ?_) #[true, true, true, true, false, false, false, false, false, false, false, false, false, false, false, false, false] rfl rfl (by kernel_rfl) (fun _ _ _ h => h) (Or.inl ⟨by rfl, ?_⟩) HH.out ?_ ?_
      rotate_left
      · rintro w_ s
        obtain ⟨p11, _⟩ := (HSa.out.below s).cells; have yy := (s.block _ (blk_lt HY.out)).trans HY.out; have y0 : w_.cell? ⟨Bt, 0, none⟩ = some (.string t.f0) := (by simp [World.cell?, yy]); have y1 : w_.cell? ⟨Bt, 1, none⟩ = some (.int .i64 t.f1) := (by simp [World.cell?, yy]); have y2 : w_.cell? ⟨Bt, 2, none⟩ = some (.bool t.f2) := (by simp [World.cell?, yy]); have y5 : w_.cell? ⟨Bt, 5, none⟩ = some (.slice A5 t.f5.length c5) := (by simp [World.cell?, yy]); clear yy
        go_simp
        with_reducible rfl
      rotate_left
      · simp only [Act.put, List.setIfInBounds_toArray, List.set_cons_zero, List.set_cons_succ, i64_w, i32_w]
        rfl
      refine pure_ (i := 4) (N := some 32) (v := ?_) (a' := ?_) #[true, true, true, true, true, false, false, false, false, false, false, false, false, false, false, false, false] rfl rfl (by kernel_rfl) (fun _ _ _ h => h) (Or.inl ⟨by rfl, ?_⟩) ?_ ?_
      rotate_left
      · intro w_
        go_simp
        with_reducible rfl
      rotate_left
      · simp only [Act.put, List.setIfInBounds_toArray, List.set_cons_zero, List.set_cons_succ, i64_w, i32_w]
        rfl
      refine take_ (i := 5) (N := some 33) (v := ?_) (a' := ?_) #[true, true, true, true, true, true, false, false, false, false, false, false, false, false, false, false, false] rfl rfl (by kernel_rfl) (fun _ _ _ h => h) (Or.inl ⟨by rfl, ?_⟩) HH.out ?_ ?_
      rotate_left
      · rintro w_ s
        obtain ⟨p11, _⟩ := (HSa.out.below s).cells; have yy := (s.block _ (blk_lt HY.out)).trans HY.out; have y0 : w_.cell? ⟨Bt, 0, none⟩ = some (.string t.f0) := (by simp [World.cell?, yy]); have y1 : w_.cell? ⟨Bt, 1, none⟩ = some (.int .i64 t.f1) := (by simp [World.cell?, yy]); have y2 : w_.cell? ⟨Bt, 2, none⟩ = some (.bool t.f2) := (by simp [World.cell?, yy]); have y5 : w_.cell? ⟨Bt, 5, none⟩ = some (.slice A5 t.f5.length c5) := (by simp [World.cell?, yy]); clear yy
        go_simp
        with_reducible rfl
      rotate_left
      · simp only [Act.put, List.setIfInBounds_toArray, List.set_cons_zero, List.set_cons_succ, i64_w, i32_w]
        rfl
      refine pure_ (i := 6) (N := some 34) (v := ?_) (a' := ?_) #[true, true, true, true, true, true, true, false, false, false, false, false, false, false, false, false, false] rfl rfl (by kernel_rfl) (fun _ _ _ h => h) (Or.inl ⟨by rfl, ?_⟩) ?_ ?_
      rotate_left
      · intro w_
        go_simp
        with_reducible rfl
      rotate_left
      · simp only [Act.put, List.setIfInBounds_toArray, List.set_cons_zero, List.set_cons_succ, i64_w, i32_w]
        rfl
      refine take_ (i := 7) (N := some 35) (v := ?_) (a' := ?_) #[true, true, true, true, true, true, true, true, false, false, false, false, false, false, false, false, false] rfl rfl (by kernel_rfl) (fun _ _ _ h => h) (Or.inl ⟨by rfl, ?_⟩) HH.out ?_ ?_
      rotate_left
      · rintro w_ s
        obtain ⟨p11, _⟩ := (HSa.out.below s).cells; have yy := (s.block _ (blk_lt HY.out)).trans HY.out; have y0 : w_.cell? ⟨Bt, 0, none⟩ = some (.string t.f0) := (by simp [World.cell?, yy]); have y1 : w_.cell? ⟨Bt, 1, none⟩ = some (.int .i64 t.f1) := (by simp [World.cell?, yy]); have y2 : w_.cell? ⟨Bt, 2, none⟩ = some (.bool t.f2) := (by simp [World.cell?, yy]); have y5 : w_.cell? ⟨Bt, 5, none⟩ = some (.slice A5 t.f5.length c5) := (by simp [World.cell?, yy]); clear yy
        go_simp
        with_reducible rfl
      rotate_left
      · simp only [Act.put, List.setIfInBounds_toArray, List.set_cons_zero, List.set_cons_succ, i64_w, i32_w]
        rfl
      refine pure_ (i := 8) (N := some 36) (v := ?_) (a' := ?_) #[true, true, true, true, true, true, true, true, true, false, false, false, false, false, false, false, false] rfl rfl (by kernel_rfl) (fun _ _ _ h => h) (Or.inl ⟨by rfl, ?_⟩) ?_ ?_
      rotate_left
      · intro w_
        go_simp
        with_reducible rfl
      rotate_left
      · simp only [Act.put, List.setIfInBounds_toArray, List.set_cons_zero, List.set_cons_succ, i64_w, i32_w]
        rfl
      refine pure_ (i := 9) (N := some 37) (v := ?_) (a' := ?_) #[true, true, true, true, true, true, true, true, true, true, false, false, false, false, false, false, false] rfl rfl (by kernel_rfl) (fun _ _ _ h => h) (Or.inl ⟨by rfl, ?_⟩) ?_ ?_
      rotate_left
      · intro w_
        go_simp
        with_reducible rfl
      rotate_left
      · simp only [Act.put, List.setIfInBounds_toArray, List.set_cons_zero, List.set_cons_succ, i64_w, i32_w]
        rfl
      refine take_ (i := 10) (N := some 38) (v := ?_) (a' := ?_) #[true, true, true, true, true, true, true, true, true, true, true, false, false, false, false, false, false] rfl rfl (by kernel_rfl) (fun _ _ _ h => h) (Or.inl ⟨by rfl, ?_⟩) HH.out ?_ ?_
      rotate_left
      · rintro w_ s
        obtain ⟨p11, _⟩ := (HSa.out.below s).cells; have yy := (s.block _ (blk_lt HY.out)).trans HY.out; have y0 : w_.cell? ⟨Bt, 0, none⟩ = some (.string t.f0) := (by simp [World.cell?, yy]); have y1 : w_.cell? ⟨Bt, 1, none⟩ = some (.int .i64 t.f1) := (by simp [World.cell?, yy]); have y2 : w_.cell? ⟨Bt, 2, none⟩ = some (.bool t.f2) := (by simp [World.cell?, yy]); have y5 : w_.cell? ⟨Bt, 5, none⟩ = some (.slice A5 t.f5.length c5) := (by simp [World.cell?, yy]); clear yy
        go_simp
        with_reducible rfl
      rotate_left
      · simp only [Act.put, List.setIfInBounds_toArray, List.set_cons_zero, List.set_cons_succ, i64_w, i32_w]
        rfl
      refine one_ (i := 11) (N := some 39) #[true, true, true, true, true, true, true, true, true, true, true, true, false, false, false, false, false] rfl rfl (by kernel_rfl) (by decide) (fun K hK => ?_)
      refine Kd.R_append_rows_step (Kd.int .i64) (w0 := wv) wv.heap.size (by rfl) (.tmp 36) (.tmp 38) 39 3 (.int .i64 0) 8 rfl Try.underlying39 info3 rfl (by decide) (by omega) (.slice none 0 0) ([] : List Int) t.f5 A5 t.f5.length c5 (fun _ => True) (fun _ => False) rfl rfl (Kd.R_nil _ _ _ _ (fun _ => True)) (Kd.C_below HGa.out HH.out) (fun _ _ hk => hk) (fun _ h => h.elim) (fun _ _ => trivial) (Below.refl _ _) (Nat.le_refl _) (by have := HL5.out; simp only [List.length_nil]; omega) ?_
      intro v5 w5 HR5 HB5 HG5 HA5
      have HR6 : (Kd.int .i64).R 3 w5 wv.heap.size (fun _ => True) v5 t.f5 := HR5
      obtain ⟨B5, d5, e5⟩ := Kd.R_slice HR6
      subst e5
      have HQ := Aside0.mk (Kd.R_mono (Kd.R_bound (Kd.R_lower HR6 HH.out.size)) (ok' := fun q => wo.heap.size ≤ q) (fun q hq => hq.2.1))
      have HP := Aside0.mk (HH.out.trans (HB5.mono HH.out.size))
      clear HR5 HR6 HB5 HG5 HA5 HH
      have HH := HP
      clear HP
      refine hK.out _ _ HH.out (fun _ => ?_)
      clear hK K
      refine norm_ (a' := ?_) ?_ ?_
      rotate_left
      · show Act.put _ (some 39) _ = _
        simp only [Act.put, List.setIfInBounds_toArray, List.set_cons_zero, List.set_cons_succ, i64_w, i32_w]
        rfl
      refine pure_ (i := 12) (N := some 40) (v := ?_) (a' := ?_) #[true, true, true, true, true, true, true, true, true, true, true, true, true, false, false, false, false] rfl rfl (by kernel_rfl) (fun _ _ _ h => h) (Or.inl ⟨by rfl, ?_⟩) ?_ ?_
      rotate_left
      · intro w_
        go_simp
        with_reducible rfl
      rotate_left
      · simp only [Act.put, List.setIfInBounds_toArray, List.set_cons_zero, List.set_cons_succ, i64_w, i32_w]
        rfl
      have HSW := Aside0.mk (HSa.out.below HH.out)
      refine one_ (i := 13) (N := some 41) #[true, true, true, true, true, true, true, true, true, true, true, true, true, true, false, false, false] rfl rfl (by kernel_rfl) (by decide) (fun K hK => ?_)
      go_simp
      refine hK.out _ _ (HH.out.alloc HH.out.size _) (fun _ => ?_)
      clear hK K
      refine last_ (i := 14) (N := some 42) #[true, true, true, true, true, true, true, true, true, true, true, true, true, true, true, false, false] rfl rfl (by kernel_rfl) (by decide) (fun K hK => ?_)
      refine Kd.R_append_step k64 (w0 := w) w.heap.size (by rfl) (.tmp 29) (.tmp 41) 28 64 (.agg #[(.string ⟨#[]⟩), (.int .i64 0), (.bool false), (.int .i64 0), (.slice none 0 0), (.slice none 0 0), (.slice none 0 0), (.slice none 0 0)]) 136 rfl Try.underlying28 info64 rfl (by decide) (by omega) VT lT (cpT t) [.string t.f0, .int .i64 t.f1, .bool t.f2, .int .i64 0, .slice none 0 0, .slice B5 t.f5.length d5, .slice none 0 0, .slice none 0 0] (fun _ => True) (fun q => wo.heap.size ≤ q) rfl rfl (k64_mkM w5 _ _ (cpT t) (Kd.R_nil _ _ _ _ _) (Kd.R_lower HQ.out (HSa.out.bel.size)) (Kd.R_nil _ _ _ _ _) (Kd.R_nil _ _ _ _ _)) (fun q hq => ⟨trivial, fun e => by have := Kd.R_lt HSa.out.t q e.symm; omega⟩) (fun _ _ => trivial) HSW.out.t HSW.out.bel HSW.out.bel.size (by have := HLN.out; have := HKB.out; omega) ?_
      intro v3 w3 HR3 HB3 HG3 HA3
      obtain ⟨A3, c3, e3⟩ := Kd.R_slice HR3
      rw [List.length_append, List.length_singleton] at e3
      subst e3
      obtain ⟨tc0, _, _, tf⟩ := HSW.out.dcell (row_ty HSW.out.t (by decide)) HG3
      have tf0 := tf 11
      have HSn := Aside0.mk (HSW.out.appT _ _ HR3 HB3 HG3)
      clear tf HR3 HB3 HG3 HA3
      refine hK.out _ _ ?_
      clear hK K
      refine norm_ (a' := ?_) ?_ ?_
      rotate_left
      · show Act.put _ (some 42) _ = _
        simp only [Act.put, List.setIfInBounds_toArray, List.set_cons_zero, List.set_cons_succ, i64_w, i32_w]
        rfl
      refine pure_ (i := 15) (N := some 43) (v := ?_) (a' := ?_) #[true, true, true, true, true, true, true, true, true, true, true, true, true, true, true, true, false] rfl rfl (by kernel_rfl) (fun _ _ _ h => h) (Or.inl ⟨by rfl, ?_⟩) ?_ ?_
      rotate_left
      · intro w_
        go_simp
        with_reducible rfl
      rotate_left
      · simp only [Act.put, List.setIfInBounds_toArray, List.set_cons_zero, List.set_cons_succ, i64_w, i32_w]
        rfl
      refine last_ (i := 16) (N := none) #[true, true, true, true, true, true, true, true, true, true, true, true, true, true, true, true, true] rfl rfl (by kernel_rfl) (by decide) (fun K hK => ?_)
      go_simp
      refine hK.out _ _ ?_
      clear hK K
      refine done_ (by kernel_rfl) ?_
      clear HSW HSa HH tf0 tc0 HY HQ HGa
      go_wp2_with fail
      go_roundw
      case rel => exact ⟨k + 1, _, HLT.out, by go_num, ⟨by rw [HTK.out]; exact HSn.out⟩⟩
      case measure => have := HLT.out; simp [intOf]; omega
    · have hd : decide ((k : Int) < (ts.length : Int)) = false := decide_eq_false (by omega)
      have HS1 := Aside0.mk (show Cp x AT cT AR cR AI cI ts.length rs.length is.length x.b9 w VT (.slice none 0 0) (.slice none 0 0) (ts.map cpT) [] [] wr by have h := HS0.out; rw [List.take_of_length_le (by omega)] at h; exact h)
      clear HS0
      go_wp2_with fail
      clear q11 hd hlt hk
      go_loopw [7] (fun i wr => ∃ (k : Nat) (VR : Value), k ≤ rs.length ∧ i = .int .i64 k ∧ Aside0 (Cp x AT cT AR cR AI cI ts.length rs.length is.length x.b9 w VT VR (.slice none 0 0) (ts.map cpT) (rs.take k) [] wr)) (fun i _ => rs.length - (intOf i).toNat)
      case atStart => exact ⟨0, _, by omega, rfl, HS1⟩
      case round =>
        clear HS1
        obtain ⟨k, VR, hk, rfl, HS0⟩ := hrel
        obtain ⟨wo, rfl⟩ : ∃ wo : World, wo = wr := ⟨_, rfl⟩
        have q12 := HS0.out.box.res
        by_cases hlt : k < rs.length
        · have hd : decide ((k : Int) < (rs.length : Int)) = true := decide_eq_true (by omega)
          have HLT := Aside0.mk (Nat.succ_le_of_lt hlt)
          obtain ⟨ad, e, hra⟩ := res_cells (HG.out.cfg.below HS0.out.bel).r k hlt
          subst e
          have HTK := Aside0.mk (show rs.take (k + 1) = rs.take k ++ [rs.getD k z73] by have h := take_snocm (fun r : S73 => r) rs z73 k hlt; simpa using h)
          have HLN := Aside0.mk (take_len0 rs k hk)
          have HKB := Aside0.mk (show (k + 1) * 32 ≤ 140737488355328 by omega)
          have HTK57 := Aside0.mk hra
          clear hra
          generalize rs.getD k z73 = t at *
          generalize rs.take k = lT at *
          go_wp2_with fail
          refine start_ (n := 11) (S := fun w_ => Below wo.heap.size wo w_) (ds := [8, 10]) #[false, false, false, false, false, false, false, false, false, false, false] (by kernel_rfl) rfl rfl (drew_below wo) (fun hHeld => ?_)
          have HH := Aside0.mk hHeld
          clear hHeld
          generalize wo.drew = wv at HH ⊢
          refine pure_ (i := 0) (N := some 51) (v := ?_) (a' := ?_) #[true, false, false, false, false, false, false, false, false, false, false] rfl rfl (by kernel_rfl) (fun _ _ _ h => h) (Or.inl ⟨by rfl, ?_⟩) ?_ ?_
          rotate_left
          · intro w_
            go_simp
            with_reducible rfl
          rotate_left
          · simp only [Act.put, List.setIfInBounds_toArray, List.set_cons_zero, List.set_cons_succ, i64_w, i32_w]
            rfl
          refine take_ (i := 1) (N := some 52) (v := ?_) (a' := ?_) #[true, true, false, false, false, false, false, false, false, false, false] rfl rfl (by kernel_rfl) (fun _ _ _ h => h) (Or.inl ⟨by rfl, ?_⟩) HH.out ?_ ?_
          rotate_left
          · rintro w_ s
            obtain ⟨_, p12, _⟩ := (HS0.out.below s).cells; have q12 := (HS0.out.below s).box.res
            go_simp
            with_reducible rfl
          rotate_left
          · simp only [Act.put, List.setIfInBounds_toArray, List.set_cons_zero, List.set_cons_succ, i64_w, i32_w]
            rfl
          refine pure_ (i := 2) (N := some 53) (v := ?_) (a' := ?_) #[true, true, true, false, false, false, false, false, false, false, false] rfl rfl (by kernel_rfl) (fun _ _ _ h => h) (Or.inl ⟨by rfl, ?_⟩) ?_ ?_
          rotate_left
          · intro w_
            go_simp
            with_reducible rfl
          rotate_left
          · simp only [Act.put, List.setIfInBounds_toArray, List.set_cons_zero, List.set_cons_succ, i64_w, i32_w]
            rfl
          refine take_ (i := 3) (N := some 54) (v := ?_) (a' := ?_) #[true, true, true, true, false, false, false, false, false, false, false] rfl rfl (by kernel_rfl) (fun _ _ _ h => h) (Or.inl ⟨by rfl, ?_⟩) HH.out ?_ ?_
          rotate_left
          · rintro w_ s
            obtain ⟨_, p12, _⟩ := (HS0.out.below s).cells; have q12 := (HS0.out.below s).box.res
            go_simp
            with_reducible rfl
          rotate_left
          · simp only [Act.put, List.setIfInBounds_toArray, List.set_cons_zero, List.set_cons_succ, i64_w, i32_w]
            rfl
          refine pure_ (i := 4) (N := some 55) (v := ?_) (a' := ?_) #[true, true, true, true, true, false, false, false, false, false, false] rfl rfl (by kernel_rfl) (fun _ _ _ h => h) (Or.inl ⟨by rfl, ?_⟩) ?_ ?_
          rotate_left
          · intro w_
            go_simp
            with_reducible rfl
          rotate_left
          · simp only [Act.put, List.setIfInBounds_toArray, List.set_cons_zero, List.set_cons_succ, i64_w, i32_w]
            rfl
          refine pure_ (i := 5) (N := some 56) (v := ?_) (a' := ?_) #[true, true, true, true, true, true, false, false, false, false, false] rfl rfl (by kernel_rfl) (fun _ _ _ h => h) (Or.inl ⟨by rfl, ?_⟩) ?_ ?_
          rotate_left
          · intro w_
            go_simp
            with_reducible rfl
          rotate_left
          · simp only [Act.put, List.setIfInBounds_toArray, List.set_cons_zero, List.set_cons_succ, i64_w, i32_w]
            rfl
          refine take_ (i := 6) (N := some 57) (v := ?_) (a' := ?_) #[true, true, true, true, true, true, true, false, false, false, false] rfl rfl (by kernel_rfl) (fun _ _ _ h => h) (Or.inl ⟨by rfl, ?_⟩) HH.out ?_ ?_
          rotate_left
          · rintro w_ s
            refine run73 (HTK57.out.below s) (.tmp 56) ?_ ?_ <;> rfl
          rotate_left
          · simp only [Act.put, List.setIfInBounds_toArray, List.set_cons_zero, List.set_cons_succ, i64_w, i32_w]
            rfl
          have HSW := Aside0.mk (HS0.out.below HH.out)
          refine one_ (i := 7) (N := some 58) #[true, true, true, true, true, true, true, true, false, false, false] rfl rfl (by kernel_rfl) (by decide) (fun K hK => ?_)
          go_simp
          refine hK.out _ _ (HH.out.alloc HH.out.size _) (fun _ => ?_)
          clear hK K
          refine last_ (i := 8) (N := some 59) #[true, true, true, true, true, true, true, true, true, false, false] rfl rfl (by kernel_rfl) (by decide) (fun K hK => ?_)
          refine Kd.R_append_step k73 (w0 := w) w.heap.size (by rfl) (.tmp 52) (.tmp 58) 29 73 (.agg #[(.string ⟨#[]⟩), (.int .i64 0), (.int .i64 0)]) 32 rfl Try.underlying29 info73 rfl (by decide) (by omega) VR lT t [.string t.f0, .int .i64 t.f1, .int .i64 t.f2] (fun _ => True) (fun _ => False) rfl rfl (k73_mkM _ _ _ t) (fun _ hk => hk.elim) (fun _ _ => trivial) HSW.out.r HSW.out.bel HSW.out.bel.size (by have := HLN.out; have := HKB.out; omega) ?_
          intro v3 w3 HR3 HB3 HG3 HA3
          obtain ⟨A3, c3, e3⟩ := Kd.R_slice HR3
          rw [List.length_append, List.length_singleton] at e3
          subst e3
          obtain ⟨_, tc0, _, tf⟩ := HSW.out.dcell (row_ty HSW.out.r (by decide)) HG3
          have tf0 := tf 12
          have HSn := Aside0.mk (HSW.out.appR _ _ HR3 HB3 HG3)
          clear tf HR3 HB3 HG3 HA3
          refine hK.out _ _ ?_
          clear hK K
          refine norm_ (a' := ?_) ?_ ?_
          rotate_left
          · show Act.put _ (some 59) _ = _
            simp only [Act.put, List.setIfInBounds_toArray, List.set_cons_zero, List.set_cons_succ, i64_w, i32_w]
            rfl
          refine pure_ (i := 9) (N := some 60) (v := ?_) (a' := ?_) #[true, true, true, true, true, true, true, true, true, true, false] rfl rfl (by kernel_rfl) (fun _ _ _ h => h) (Or.inl ⟨by rfl, ?_⟩) ?_ ?_
          rotate_left
          · intro w_
            go_simp
            with_reducible rfl
          rotate_left
          · simp only [Act.put, List.setIfInBounds_toArray, List.set_cons_zero, List.set_cons_succ, i64_w, i32_w]
            rfl
          refine last_ (i := 10) (N := none) #[true, true, true, true, true, true, true, true, true, true, true] rfl rfl (by kernel_rfl) (by decide) (fun K hK => ?_)
          go_simp
          refine hK.out _ _ ?_
          clear hK K
          refine done_ (by kernel_rfl) ?_
          clear HSW HS0 HH tf0 tc0 q12 HTK57
          go_wp2_with fail
          go_roundw
          case rel => exact ⟨k + 1, _, HLT.out, by go_num, ⟨by rw [HTK.out]; exact HSn.out⟩⟩
          case measure => have := HLT.out; simp [intOf]; omega
        · have hd : decide ((k : Int) < (rs.length : Int)) = false := decide_eq_false (by omega)
          have HS1 := Aside0.mk (show Cp x AT cT AR cR AI cI ts.length rs.length is.length x.b9 w VT VR (.slice none 0 0) (ts.map cpT) rs [] wo by have h := HS0.out; rw [List.take_of_length_le (by omega)] at h; exact h)
          clear HS0
          go_wp2_with fail
          clear q12 hd hlt hk
          go_loopw [8] (fun i wr => ∃ (k : Nat) (VI : Value), k ≤ is.length ∧ i = .int .i64 k ∧ Aside0 (Cp x AT cT AR cR AI cI ts.length rs.length is.length x.b9 w VT VR VI (ts.map cpT) rs ((is.take k).map cpI) wr)) (fun i _ => is.length - (intOf i).toNat)
          case atStart => exact ⟨0, _, by omega, rfl, HS1⟩
          case round =>
            clear HS1
            obtain ⟨k, VI, hk, rfl, HS0⟩ := hrel
            have q16 := HS0.out.box.isrs
            by_cases hlt : k < is.length
            · have hd : decide ((k : Int) < (is.length : Int)) = true := decide_eq_true (by omega)
              have HLT := Aside0.mk (Nat.succ_le_of_lt hlt)
              obtain ⟨ad, A3, c3, A4, c4, e, hta, _, g5⟩ := isr_cells (HG.out.cfg.below HS0.out.bel).i k hlt
              subst e
              have HL5 := Aside0.mk (HIS.out k hlt)
              have HTK := Aside0.mk (take_snocm cpI is z66 k hlt)
              have HLN := Aside0.mk (take_len cpI is k hk)
              have HTA := Aside0.mk hta
              have HG5 := Aside0.mk g5
              have HKB := Aside0.mk (show (k + 1) * 80 ≤ 140737488355328 by have := HIB.out; omega)
              clear hta g5
              generalize is.getD k z66 = t at *
              generalize (is.take k).map cpI = lT at *
              have hba : Below wr.heap.size wr (wr.alloc (.cells #[.string t.f0, .int .i64 t.f1, .int .i64 t.f2, .slice A3 t.f3.length c3, .slice A4 t.f4.length c4] 66)) := (Below.refl _ _).alloc (Nat.le_refl _) _
              have HSa := Aside0.mk (HS0.out.below hba)
              have HGa := Aside0.mk (Kd.C_below HG5.out hba)
              have HY := Aside0.mk (heap_alloc_new wr (.cells #[.string t.f0, .int .i64 t.f1, .int .i64 t.f2, .slice A3 t.f3.length c3, .slice A4 t.f4.length c4] 66))
              clear hba
              go_wp2_with (first | ((with_reducible refine gate_dst (N := 72) rfl ?_); refine load66 HTA.out rfl (.tmp 71) rfl rfl ?_))
              clear HS0 q16 HG5 HTA
              generalize wr.alloc (.cells #[.string t.f0, .int .i64 t.f1, .int .i64 t.f2, .slice A3 t.f3.length c3, .slice A4 t.f4.length c4] 66) = wo at *
              generalize wr.heap.size = Bt at *
              refine start_ (n := 15) (S := fun w_ => Below wo.heap.size wo w_) (ds := [12, 14]) #[false, false, false, false, false, false, false, false, false, false, false, false, false, false, false] (by kernel_rfl) rfl rfl (drew_below wo) (fun hHeld => ?_)
              have HH := Aside0.mk hHeld
              clear hHeld
              generalize wo.drew = wv at HH ⊢
              refine pure_ (i := 0) (N := some 73) (v := ?_) (a' := ?_) #[true, false, false, false, false, false, false, false, false, false, false, false, false, false, false] rfl rfl (by kernel_rfl) (fun _ _ _ h => h) (Or.inl ⟨by rfl, ?_⟩) ?_ ?_
              rotate_left
              · intro w_
                go_simp
                with_reducible rfl
              rotate_left
              · simp only [Act.put, List.setIfInBounds_toArray, List.set_cons_zero, List.set_cons_succ, i64_w, i32_w]
                rfl
              refine take_ (i := 1) (N := some 74) (v := ?_) (a' := ?_) #[true, true, false, false, false, false, false, false, false, false, false, false, false, false, false] rfl rfl (by kernel_rfl) (fun _ _ _ h => h) (Or.inl ⟨by rfl, ?_⟩) HH.out ?_ ?_
              rotate_left
              · rintro w_ s
                obtain ⟨_, _, p16, _⟩ := (HSa.out.below s).cells; have yy := (s.block _ (blk_lt HY.out)).trans HY.out; have y0 : w_.cell? ⟨Bt, 0, none⟩ = some (.string t.f0) := (by simp [World.cell?, yy]); have y2 : w_.cell? ⟨Bt, 2, none⟩ = some (.int .i64 t.f2) := (by simp [World.cell?, yy]); have y3 : w_.cell? ⟨Bt, 3, none⟩ = some (.slice A3 t.f3.length c3) := (by simp [World.cell?, yy]); clear yy
                go_simp
                with_reducible rfl
              rotate_left
              · simp only [Act.put, List.setIfInBounds_toArray, List.set_cons_zero, List.set_cons_succ, i64_w, i32_w]
                rfl
              refine pure_ (i := 2) (N := some 75) (v := ?_) (a' := ?_) #[true, true, true, false, false, false, false, false, false, false, false, false, false, false, false] rfl rfl (by kernel_rfl) (fun _ _ _ h => h) (Or.inl ⟨by rfl, ?_⟩) ?_ ?_
              rotate_left
              · intro w_
                go_simp
                with_reducible rfl
              rotate_left
              · simp only [Act.put, List.setIfInBounds_toArray, List.set_cons_zero, List.set_cons_succ, i64_w, i32_w]
                rfl
              refine take_ (i := 3) (N := some 76) (v := ?_) (a' := ?_) #[true, true, true, true, false, false, false, false, false, false, false, false, false, false, false] rfl rfl (by kernel_rfl) (fun _ _ _ h => h) (Or.inl ⟨by rfl, ?_⟩) HH.out ?_ ?_
              rotate_left
              · rintro w_ s
                obtain ⟨_, _, p16, _⟩ := (HSa.out.below s).cells; have yy := (s.block _ (blk_lt HY.out)).trans HY.out; have y0 : w_.cell? ⟨Bt, 0, none⟩ = some (.string t.f0) := (by simp [World.cell?, yy]); have y2 : w_.cell? ⟨Bt, 2, none⟩ = some (.int .i64 t.f2) := (by simp [World.cell?, yy]); have y3 : w_.cell? ⟨Bt, 3, none⟩ = some (.slice A3 t.f3.length c3) := (by simp [World.cell?, yy]); clear yy
                go_simp
                with_reducible rfl
              rotate_left
              · simp only [Act.put, List.setIfInBounds_toArray, List.set_cons_zero, List.set_cons_succ, i64_w, i32_w]
                rfl
              refine pure_ (i := 4) (N := some 77) (v := ?_) (a' := ?_) #[true, true, true, true, true, false, false, false, false, false, false, false, false, false, false] rfl rfl (by kernel_rfl) (fun _ _ _ h => h) (Or.inl ⟨by rfl, ?_⟩) ?_ ?_
              rotate_left
              · intro w_
                go_simp
                with_reducible rfl
              rotate_left
              · simp only [Act.put, List.setIfInBounds_toArray, List.set_cons_zero, List.set_cons_succ, i64_w, i32_w]
                rfl
              refine take_ (i := 5) (N := some 78) (v := ?_) (a' := ?_) #[true, true, true, true, true, true, false, false, false, false, false, false, false, false, false] rfl rfl (by kernel_rfl) (fun _ _ _ h => h) (Or.inl ⟨by rfl, ?_⟩) HH.out ?_ ?_
              rotate_left
              · rintro w_ s
                obtain ⟨_, _, p16, _⟩ := (HSa.out.below s).cells; have yy := (s.block _ (blk_lt HY.out)).trans HY.out; have y0 : w_.cell? ⟨Bt, 0, none⟩ = some (.string t.f0) := (by simp [World.cell?, yy]); have y2 : w_.cell? ⟨Bt, 2, none⟩ = some (.int .i64 t.f2) := (by simp [World.cell?, yy]); have y3 : w_.cell? ⟨Bt, 3, none⟩ = some (.slice A3 t.f3.length c3) := (by simp [World.cell?, yy]); clear yy
                go_simp
                with_reducible rfl
              rotate_left
              · simp only [Act.put, List.setIfInBounds_toArray, List.set_cons_zero, List.set_cons_succ, i64_w, i32_w]
                rfl
              refine pure_ (i := 6) (N := some 79) (v := ?_) (a' := ?_) #[true, true, true, true, true, true, true, false, false, false, false, false, false, false, false] rfl rfl (by kernel_rfl) (fun _ _ _ h => h) (Or.inl ⟨by rfl, ?_⟩) ?_ ?_
              rotate_left
              · intro w_
                go_simp
                with_reducible rfl
              rotate_left
              · simp only [Act.put, List.setIfInBounds_toArray, List.set_cons_zero, List.set_cons_succ, i64_w, i32_w]
                rfl
              refine pure_ (i := 7) (N := some 80) (v := ?_) (a' := ?_) #[true, true, true, true, true, true, true, true, false, false, false, false, false, false, false] rfl rfl (by kernel_rfl) (fun _ _ _ h => h) (Or.inl ⟨by rfl, ?_⟩) ?_ ?_
              rotate_left
              · intro w_
                go_simp
                with_reducible rfl
              rotate_left
              · simp only [Act.put, List.setIfInBounds_toArray, List.set_cons_zero, List.set_cons_succ, i64_w, i32_w]
                rfl
              refine take_ (i := 8) (N := some 81) (v := ?_) (a' := ?_) #[true, true, true, true, true, true, true, true, true, false, false, false, false, false, false] rfl rfl (by kernel_rfl) (fun _ _ _ h => h) (Or.inl ⟨by rfl, ?_⟩) HH.out ?_ ?_
              rotate_left
              · rintro w_ s
                obtain ⟨_, _, p16, _⟩ := (HSa.out.below s).cells; have yy := (s.block _ (blk_lt HY.out)).trans HY.out; have y0 : w_.cell? ⟨Bt, 0, none⟩ = some (.string t.f0) := (by simp [World.cell?, yy]); have y2 : w_.cell? ⟨Bt, 2, none⟩ = some (.int .i64 t.f2) := (by simp [World.cell?, yy]); have y3 : w_.cell? ⟨Bt, 3, none⟩ = some (.slice A3 t.f3.length c3) := (by simp [World.cell?, yy]); clear yy
                go_simp
                with_reducible rfl
              rotate_left
              · simp only [Act.put, List.setIfInBounds_toArray, List.set_cons_zero, List.set_cons_succ, i64_w, i32_w]
                rfl
              refine one_ (i := 9) (N := some 82) #[true, true, true, true, true, true, true, true, true, true, false, false, false, false, false] rfl rfl (by kernel_rfl) (by decide) (fun K hK => ?_)
              refine Kd.R_append_rows_step (Kd.int .i64) (w0 := wv) wv.heap.size (by rfl) (.tmp 79) (.tmp 81) 39 3 (.int .i64 0) 8 rfl Try.underlying39 info3 rfl (by decide) (by omega) (.slice none 0 0) ([] : List Int) t.f3 A3 t.f3.length c3 (fun _ => True) (fun _ => False) rfl rfl (Kd.R_nil _ _ _ _ (fun _ => True)) (Kd.C_below HGa.out HH.out) (fun _ _ hk => hk) (fun _ h => h.elim) (fun _ _ => trivial) (Below.refl _ _) (Nat.le_refl _) (by have := HL5.out; simp only [List.length_nil]; omega) ?_
              intro v5 w5 HR5 HB5 HG5 HA5
              have HR6 : (Kd.int .i64).R 3 w5 wv.heap.size (fun _ => True) v5 t.f3 := HR5
              obtain ⟨B5, d5, e5⟩ := Kd.R_slice HR6
              subst e5
              have HQ := Aside0.mk (Kd.R_mono (Kd.R_bound (Kd.R_lower HR6 HH.out.size)) (ok' := fun q => wo.heap.size ≤ q) (fun q hq => hq.2.1))
              have HP := Aside0.mk (HH.out.trans (HB5.mono HH.out.size))
              clear HR5 HR6 HB5 HG5 HA5 HH
              have HH := HP
              clear HP
              refine hK.out _ _ HH.out (fun _ => ?_)
              clear hK K
              refine norm_ (a' := ?_) ?_ ?_
              rotate_left
              · show Act.put _ (some 82) _ = _
                simp only [Act.put, List.setIfInBounds_toArray, List.set_cons_zero, List.set_cons_succ, i64_w, i32_w]
                rfl
              refine pure_ (i := 10) (N := some 83) (v := ?_) (a' := ?_) #[true, true, true, true, true, true, true, true, true, true, true, false, false, false, false] rfl rfl (by kernel_rfl) (fun _ _ _ h => h) (Or.inl ⟨by rfl, ?_⟩) ?_ ?_
              rotate_left
              · intro w_
                go_simp
                with_reducible rfl
              rotate_left
              · simp only [Act.put, List.setIfInBounds_toArray, List.set_cons_zero, List.set_cons_succ, i64_w, i32_w]
                rfl
              have HSW := Aside0.mk (HSa.out.below HH.out)
              refine one_ (i := 11) (N := some 84) #[true, true, true, true, true, true, true, true, true, true, true, true, false, false, false] rfl rfl (by kernel_rfl) (by decide) (fun K hK => ?_)
              go_simp
              refine hK.out _ _ (HH.out.alloc HH.out.size _) (fun _ => ?_)
              clear hK K
              refine last_ (i := 12) (N := some 85) #[true, true, true, true, true, true, true, true, true, true, true, true, true, false, false] rfl rfl (by kernel_rfl) (by decide) (fun K hK => ?_)
              refine Kd.R_append_step k66 (w0 := w) w.heap.size (by rfl) (.tmp 74) (.tmp 84) 33 66 (.agg #[(.string ⟨#[]⟩), (.int .i64 0), (.int .i64 0), (.slice none 0 0), (.slice none 0 0)]) 80 rfl Try.underlying33 info66 rfl (by decide) (by omega) VI lT (cpI t) [.string t.f0, .int .i64 0, .int .i64 t.f2, .slice B5 t.f3.length d5, .slice none 0 0] (fun _ => True) (fun q => wo.heap.size ≤ q) rfl rfl (k66_mkM w5 _ _ (cpI t) (Kd.R_lower HQ.out (HSa.out.bel.size)) (Kd.R_nil _ _ _ _ _)) (fun q hq => ⟨trivial, fun e => by have := Kd.R_lt HSa.out.i q e.symm; omega⟩) (fun _ _ => trivial) HSW.out.i HSW.out.bel HSW.out.bel.size (by have := HLN.out; have := HKB.out; omega) ?_
              intro v3 w3 HR3 HB3 HG3 HA3
              obtain ⟨A3, c3, e3⟩ := Kd.R_slice HR3
              rw [List.length_append, List.length_singleton] at e3
              subst e3
              obtain ⟨_, _, tc0, tf⟩ := HSW.out.dcell (row_ty HSW.out.i (by decide)) HG3
              have tf0 := tf 16
              have HSn := Aside0.mk (HSW.out.appI _ _ HR3 HB3 HG3)
              clear tf HR3 HB3 HG3 HA3
              refine hK.out _ _ ?_
              clear hK K
              refine norm_ (a' := ?_) ?_ ?_
              rotate_left
              · show Act.put _ (some 85) _ = _
                simp only [Act.put, List.setIfInBounds_toArray, List.set_cons_zero, List.set_cons_succ, i64_w, i32_w]
                rfl
              refine pure_ (i := 13) (N := some 86) (v := ?_) (a' := ?_) #[true, true, true, true, true, true, true, true, true, true, true, true, true, true, false] rfl rfl (by kernel_rfl) (fun _ _ _ h => h) (Or.inl ⟨by rfl, ?_⟩) ?_ ?_
              rotate_left
              · intro w_
                go_simp
                with_reducible rfl
              rotate_left
              · simp only [Act.put, List.setIfInBounds_toArray, List.set_cons_zero, List.set_cons_succ, i64_w, i32_w]
                rfl
              refine last_ (i := 14) (N := none) #[true, true, true, true, true, true, true, true, true, true, true, true, true, true, true] rfl rfl (by kernel_rfl) (by decide) (fun K hK => ?_)
              go_simp
              refine hK.out _ _ ?_
              clear hK K
              refine done_ (by kernel_rfl) ?_
              clear HSW HSa HH tf0 tc0 HY HQ HGa
              go_wp2_with fail
              go_roundw
              case rel => exact ⟨k + 1, _, HLT.out, by go_num, ⟨by rw [HTK.out]; exact HSn.out⟩⟩
              case measure => have := HLT.out; simp [intOf]; omega
            · have hd : decide ((k : Int) < (is.length : Int)) = false := decide_eq_false (by omega)
              have HS1 := Aside0.mk (show Cp x AT cT AR cR AI cI ts.length rs.length is.length x.b9 w VT VR VI (ts.map cpT) rs (is.map cpI) wr by have h := HS0.out; rw [List.take_of_length_le (by omega)] at h; exact h)
              clear HS0
              obtain ⟨AT2, dT, e1⟩ := Kd.R_slice HS1.out.t
              obtain ⟨AR2, dR, e2⟩ := Kd.R_slice HS1.out.r
              obtain ⟨AI2, dI, e3⟩ := Kd.R_slice HS1.out.i
              rw [List.length_map] at e1 e3
              subst e1 e2 e3
              have HD := Aside0.mk (show BoxAt wr (w.heap.size + 1 + 1) ⟨⟨#[]⟩, ⟨#[]⟩, false, false, false, false, false, false, false, x.b9, none, 0, 0, none, 0, 0, none, 0, 0, none, 0, 0, none, 0, 0⟩ AT2 dT AR2 dR AI2 dI ts.length rs.length is.length from HS1.out.d)
              have HPH := Aside0.mk (setRow_heap wr (w.heap.size + 1) _ (cpArr x.b9 (.slice AT2 ts.length dT) (.slice AR2 rs.length dR) (.slice AI2 is.length dI)) 36 (0, 0) HS1.out.zero)
              have hot : ∀ {α : Type} {d : Kd α} {e : Nat} {v : Value} {xs : List α}, d.R e wr w.heap.size (fun _ => True) v xs → (∀ q, q ∈ e :: d.E → q ≠ 36) → d.R e (wr.setRow (w.heap.size + 1) (cpArr x.b9 (.slice AT2 ts.length dT) (.slice AR2 rs.length dR) (.slice AI2 is.length dI))) w.heap.size (fun _ => True) v xs := fun h hq =>
                Kd.R_mono (Kd.R_step (Kd.R_types h HS1.out.zero hq) (fun q hq2 _ => setRow_other wr (w.heap.size + 1) q _ hq2.2)) (fun _ _ => trivial)
              have HF := Aside0.mk (show Below w.heap.size w (wr.setRow (w.heap.size + 1) (cpArr x.b9 (.slice AT2 ts.length dT) (.slice AR2 rs.length dR) (.slice AI2 is.length dI))) ∧ _ ∧ _ ∧ _ from ⟨below_setRow HS1.out.bel (by omega) _, hot HS1.out.t (by decide), hot HS1.out.r (by decide), hot HS1.out.i (by decide)⟩)
              clear hot
              have HONE := Aside0.mk (show (cpArr x.b9 (.slice AT2 ts.length dT) (.slice AR2 rs.length dR) (.slice AI2 is.length dI)).all (·.oneCell') = true from by simp [cpArr, Value.oneCell'])
              go_wp2_with (first | ((with_reducible refine gate_dst (N := 87) rfl ?_); refine load36 HD.out rfl (.tmp 3) rfl rfl ?_) | (refine store36 HS1.out.zero rfl (cpArr x.b9 (.slice AT2 ts.length dT) (.slice AR2 rs.length dR) (.slice AI2 is.length dI)) rfl HONE.out rfl (.tmp 2) (.tmp 87) rfl rfl rfl ?_))
              refine bodyPost_ret (results_cell_row rfl _ _ (w.heap.size + 1) 36 (cpArr x.b9 (.slice AT2 ts.length dT) (.slice AR2 rs.length dR) (.slice AI2 is.length dI)) (0, 0) _ rfl HPH.out Try.underlying36 rfl (by kernel_rfl)) rfl ?_
              exact ⟨HF.out.1, AT2, dT, AR2, dR, AI2, dI, rfl, HF.out.2⟩
end Go.Proofs.Ytflkbheginhfiaa.XA
/- what the copy of a configuration answers is what the configuration answers. -/
namespace Go.Proofs.Ytflkbheginhfiaa.XA
set_option linter.unusedVariables false
set_option linter.unusedSimpArgs false
open Go.RowKit Go.WideMaps Go.Maps Go.Proofs.YtflkbheginhfiaaW.PrintWords Go.Proofs.YtflkbheginhfiaaW.PrintLast Go.Proofs.YtflkbheginhfiaaW.PrintMore
theorem gT (ts : List S64) (k : Nat) : (ts.map cpT).getD k z64 = cpT (ts.getD k z64) := by
  have h : cpT z64 = z64 := rfl
  simp only [List.getD_eq_getElem?_getD, List.getElem?_map]
  cases ts[k]? <;> simp [h]
theorem gI (is : List S66) (k : Nat) : (is.map cpI).getD k z66 = cpI (is.getD k z66) := by
  have h : cpI z66 = z66 := rfl
  simp only [List.getD_eq_getElem?_getD, List.getElem?_map]
  cases is[k]? <;> simp [h]
theorem taskUsers_cp (rs : List S73) (ts : List S64) (q k : Nat) : taskUsers rs (ts.map cpT) q k = taskUsers rs ts q k := by
  unfold taskUsers
  simp only [gT, cpT]
theorem isrUsers_cp (rs : List S73) (is : List S66) (q k : Nat) : isrUsers rs (is.map cpI) q k = isrUsers rs is q k := by
  unfold isrUsers
  simp only [gI, cpI]
theorem ceilF_cp (ts : List S64) (rs : List S73) (is : List S66) : ceilF (ts.map cpT) rs (is.map cpI) = ceilF ts rs is := by
  funext q
  unfold ceilF
  rw [taskUsers_cp, isrUsers_cp, List.length_map, List.length_map]
theorem schF_cp (ts : List S64) : ∀ k, schF (ts.map cpT) k = schF ts k
  | 0 => rfl
  | k + 1 => by
    unfold schF
    rw [gT, schF_cp ts k]
    rfl
theorem runF_cp (ts : List S64) (rs : List S73) (is : List S66) (t : S64) : runF (ts.map cpT) rs (is.map cpI) (cpT t) = runF ts rs is t := by
  unfold runF runP
  rw [ceilF_cp, schF_cp, List.length_map]
  rfl
theorem refs_cp (ts : List S64) (rs : List S73) (is : List S66) : RefsOk (ts.map cpT) rs (is.map cpI) ↔ RefsOk ts rs is := by
  constructor
  · intro h
    refine ⟨fun j hj => ?_, fun j hj => ?_, h.r⟩
    · have := h.t j (by rw [List.length_map]; exact hj)
      rw [gT] at this
      exact this
    · have := h.i j (by rw [List.length_map]; exact hj)
      rw [gI] at this
      exact this
  · intro h
    refine ⟨fun j hj => ?_, fun j hj => ?_, h.r⟩
    · rw [List.length_map] at hj
      rw [gT]
      exact h.t j hj
    · rw [List.length_map] at hj
      rw [gI]
      exact h.i j hj
theorem inner_cp (ts : List S64) (rs : List S73) (is : List S66) : InnerOk (ts.map cpT) rs (is.map cpI) ↔ InnerOk ts rs is := by
  constructor
  · intro h
    refine ⟨fun j hj => ?_, fun j hj => ?_, h.r⟩
    · have := h.t j (by rw [List.length_map]; exact hj)
      rw [gT] at this
      exact this
    · have := h.i j (by rw [List.length_map]; exact hj)
      rw [gI] at this
      exact this
  · intro h
    refine ⟨fun j hj => ?_, fun j hj => ?_, h.r⟩
    · rw [List.length_map] at hj
      rw [gT]
      exact h.t j hj
    · rw [List.length_map] at hj
      rw [gI]
      exact h.i j hj
theorem checkV_cp (ts : List S64) (rs : List S73) (is : List S66) : checkV (ts.map cpT) rs (is.map cpI) = checkV ts rs is := by
  have h1 := propext (refs_cp ts rs is)
  have h2 := propext (inner_cp ts rs is)
  unfold checkV
  rw [h1, h2]
theorem reckonV_cp (ts : List S64) (rs : List S73) (is : List S66) (b : Bool) : reckonV (ts.map cpT) rs (is.map cpI) b = reckonV ts rs is b := by
  unfold reckonV
  rw [checkV_cp]
  have h1 : ∀ k, ceilsF (ts.map cpT) rs (is.map cpI) k = ceilsF ts rs is k := fun k => by unfold ceilsF; rw [ceilF_cp]
  have h2 : ∀ k, runsF (ts.map cpT) rs (is.map cpI) k = runsF ts rs is k := fun k => by
    unfold runsF
    congr 1
    funext j
    rw [gT, runF_cp]
  have h3 : ∀ k, cntsF (ts.map cpT) rs b k = cntsF ts rs b k := fun k => by
    unfold cntsF
    congr 1
    funext j
    rw [gT]
    rfl
  have h4 : ∀ k, isrsF (is.map cpI) k = isrsF is k := fun k => by
    unfold isrsF
    congr 1
    funext j
    rw [gI]
    rfl
  rw [h1, h2, h3, h4, schF_cp, List.length_map, List.length_map]
def cpCV (b : Bool) : CV := ⟨⟨#[]⟩, ⟨#[]⟩, false, false, false, false, false, false, false, b, none, 0, 0, none, 0, 0, none, 0, 0, none, 0, 0, none, 0, 0⟩
/-- what the copy bears may be handed in -/
theorem good_cp {AT : Option Addr} {cT : Nat} {AR : Option Addr} {cR : Nat} {AI : Option Addr} {cI : Nat} {ts : List S64} {rs : List S73} {is : List S66} {w w1 : World} {b : Nat} (g : Good AT cT AR cR AI cI ts rs is w) {AT2 : Option Addr} {dT : Nat} {AR2 : Option Addr} {dR : Nat} {AI2 : Option Addr} {dI : Nat} (h1 : k64.R 64 w1 b (fun _ => True) (.slice AT2 ts.length dT) (ts.map cpT)) (h2 : k73.R 73 w1 b (fun _ => True) (.slice AR2 rs.length dR) rs) (h3 : k66.R 66 w1 b (fun _ => True) (.slice AI2 is.length dI) (is.map cpI)) : Good AT2 dT AR2 dR AI2 dI (ts.map cpT) rs (is.map cpI) w1 := by
  obtain ⟨e1, l1, c1⟩ := Kd.R_reads' h1
  obtain ⟨e2, l2, c2⟩ := Kd.R_reads' h2
  obtain ⟨e3, l3, c3⟩ := Kd.R_reads' h3
  refine ⟨⟨by rw [List.length_map]; exact l1, c1, l2, c2, by rw [List.length_map]; exact l3, c3⟩, g.r, by rw [List.length_map]; exact g.t, by rw [List.length_map]; exact g.i⟩
end Go.Proofs.Ytflkbheginhfiaa.XA
/- CeilLeast: the plain law. -/
namespace Go.Proofs.Ytflkbheginhfiaa.XA
set_option linter.unusedVariables false
set_option linter.unusedSimpArgs false
open Go.RowKit Go.WideMaps Go.Maps Go.Proofs.YtflkbheginhfiaaW.PrintWords Go.Proofs.YtflkbheginhfiaaW.PrintLast Go.Proofs.YtflkbheginhfiaaW.PrintMore
theorem has_mem {l : List Int} {x : Int} : hasF l x = true ↔ x ∈ l := by
  unfold hasF
  rw [List.any_eq_true]
  constructor
  · rintro ⟨y, hy, h⟩
    rw [← show y = x by simpa using h]
    exact hy
  · intro h
    exact ⟨x, h, beq_self_eq_true _⟩
theorem group_mem {rs : List S73} {q n : Nat} {p : Int} : p ∈ groupN rs q n ↔ ∃ i : Nat, i < n ∧ p = i ∧ rootOf rs i = rootOf rs q := by
  unfold groupN
  rw [List.mem_map]
  constructor
  · rintro ⟨i, hi, rfl⟩
    have := List.mem_filter.mp hi
    exact ⟨i, List.mem_range.mp this.1, rfl, by simpa using this.2⟩
  · rintro ⟨i, h1, rfl, h2⟩
    exact ⟨i, List.mem_filter.mpr ⟨List.mem_range.mpr h1, by simp [h2]⟩, rfl⟩
theorem uses_congr {rs : List S73} {a b : Nat} (h : rootOf rs a = rootOf rs b) (l : List Int) : usesF rs a l = usesF rs b l := by
  unfold usesF
  rw [h]
theorem ceil_congr {ts : List S64} {rs : List S73} {is : List S66} {a b : Nat} (h : rootOf rs a = rootOf rs b) : ceilF ts rs is a = ceilF ts rs is b := by
  unfold ceilF taskUsers isrUsers
  simp only [uses_congr h]
theorem uses_yes {rs : List S73} {q p : Nat} (h : rootOf rs p = rootOf rs q) {l : List Int} (hm : (p : Int) ∈ l) : usesF rs q l = true := List.any_eq_true.mpr ⟨_, hm, by simpa using h⟩
theorem top_le : ∀ (L : List (Bool × Nat × Int)) (s : Int × Bool), (s.2 = true → s.1 ≤ (L.foldl (fun s u => topF s u.2.2) s).1) ∧ ∀ u ∈ L, u.2.2 ≤ (L.foldl (fun s u => topF s u.2.2) s).1
  | [], s => ⟨fun _ => Int.le_refl _, fun u hu => by cases hu⟩
  | v :: L, s => by
    obtain ⟨h1, h2⟩ := top_le L (topF s v.2.2)
    have h3 := h1 rfl
    rw [List.foldl_cons]
    refine ⟨fun hs => ?_, fun u hu => ?_⟩
    · refine Int.le_trans ?_ h3
      unfold topF
      rw [hs]
      simp
      omega
    · rcases List.mem_cons.mp hu with rfl | hu
      · refine Int.le_trans ?_ h3
        unfold topF
        dsimp only
        split <;> omega
      · exact h2 u hu
theorem top_one : ∀ (L : List (Bool × Nat × Int)) (s : Int × Bool), (L.foldl (fun s u => topF s u.2.2) s).1 = s.1 ∧ (L = [] ∨ s.2 = true) ∨ ∃ u ∈ L, u.2.2 = (L.foldl (fun s u => topF s u.2.2) s).1
  | [], s => .inl ⟨rfl, .inl rfl⟩
  | v :: L, s => by
    rw [List.foldl_cons]
    rcases top_one L (topF s v.2.2) with ⟨h1, _⟩ | ⟨u, hu, h⟩
    · rw [h1]
      unfold topF
      dsimp only
      split
      · rename_i hs
        rcases Int.le_total s.1 v.2.2 with h | h
        · exact .inr ⟨v, List.mem_cons_self, by omega⟩
        · exact .inl ⟨by omega, .inr hs⟩
      · exact .inr ⟨v, List.mem_cons_self, rfl⟩
    · exact .inr ⟨u, List.mem_cons_of_mem _ hu, h⟩
def allUsers (ts : List S64) (rs : List S73) (is : List S66) (q : Nat) : List (Bool × Nat × Int) := taskUsers rs ts q ts.length ++ isrUsers rs is q is.length
theorem ceil_ge {ts : List S64} {rs : List S73} {is : List S66} {q : Nat} : ∀ u ∈ allUsers ts rs is q, u.2.2 ≤ ceilF ts rs is q := (top_le _ _).2
theorem ceil_at {ts : List S64} {rs : List S73} {is : List S66} {q : Nat} : allUsers ts rs is q = [] ∧ ceilF ts rs is q = -1 ∨ ∃ u ∈ allUsers ts rs is q, u.2.2 = ceilF ts rs is q := by
  rcases top_one (allUsers ts rs is q) (-1, false) with ⟨h1, h2⟩ | h
  · rcases h2 with h2 | h2
    · exact .inl ⟨h2, h1⟩
    · cases h2
  · exact .inr h
theorem task_user {ts : List S64} {rs : List S73} {is : List S66} {q k : Nat} (hk : k < ts.length) (h : usesF rs q (ts.getD k z64).f5 = true) : (false, k, (ts.getD k z64).f1) ∈ allUsers ts rs is q :=
  List.mem_append_left _ (List.mem_filterMap.mpr ⟨k, List.mem_range.mpr hk, by rw [if_pos h]⟩)
theorem isr_user {ts : List S64} {rs : List S73} {is : List S66} {q k : Nat} (hk : k < is.length) (h : usesF rs q (is.getD k z66).f3 = true) : (true, k, (is.getD k z66).f2) ∈ allUsers ts rs is q :=
  List.mem_append_right _ (List.mem_filterMap.mpr ⟨k, List.mem_range.mpr hk, by rw [if_pos h]⟩)
theorem user_of {ts : List S64} {rs : List S73} {is : List S66} {q : Nat} {u : Bool × Nat × Int} (h : u ∈ allUsers ts rs is q) : (∃ k, k < ts.length ∧ u = (false, k, (ts.getD k z64).f1) ∧ usesF rs q (ts.getD k z64).f5 = true) ∨ ∃ k, k < is.length ∧ u = (true, k, (is.getD k z66).f2) ∧ usesF rs q (is.getD k z66).f3 = true := by
  rcases List.mem_append.mp h with h | h
  · obtain ⟨k, hk, hs⟩ := List.mem_filterMap.mp h
    split at hs
    · injection hs with hs
      exact .inl ⟨k, List.mem_range.mp hk, hs.symm, by assumption⟩
    · cases hs
  · obtain ⟨k, hk, hs⟩ := List.mem_filterMap.mp h
    split at hs
    · injection hs with hs
      exact .inr ⟨k, List.mem_range.mp hk, hs.symm, by assumption⟩
    · cases hs
/-! ### 'met' -/
def hitT (ts : List S64) (top gi : Int) (k : Nat) : Bool := hasF (ts.getD k z64).f5 gi && ((ts.getD k z64).f1 == top)
def hitI (is : List S66) (top gi : Int) (k : Nat) : Bool := hasF (is.getD k z66).f3 gi && ((is.getD k z66).f2 == top)
def anyF (f : Nat → Bool) (k : Nat) : Bool := (List.range k).any f
theorem any_succ (f : Nat → Bool) (k : Nat) : anyF f (k + 1) = (anyF f k || f k) := by
  unfold anyF
  rw [List.range_succ, List.any_append]
  simp
theorem any_iff {f : Nat → Bool} {k : Nat} : anyF f k = true ↔ ∃ j, j < k ∧ f j = true := by
  unfold anyF
  rw [List.any_eq_true]
  constructor
  · rintro ⟨j, hj, h⟩
    exact ⟨j, List.mem_range.mp hj, h⟩
  · rintro ⟨j, hj, h⟩
    exact ⟨j, List.mem_range.mpr hj, h⟩
def metG (ts : List S64) (is : List S66) (top : Int) (g : List Int) (a : Nat) : Bool := anyF (hitT ts top (g.getD a 0)) ts.length || anyF (hitI is top (g.getD a 0)) is.length
theorem met_users {ts : List S64} {rs : List S73} {is : List S66} {q : Nat} (hin : RefsOk ts rs is) (hq : q < rs.length) :
    anyF (metG ts is (ceilF ts rs is q) (groupN rs q rs.length)) (groupN rs q rs.length).length = true ↔ allUsers ts rs is q ≠ [] := by
  rw [any_iff]
  constructor
  · rintro ⟨a, ha, h⟩
    have hmem : (groupN rs q rs.length).getD a 0 ∈ groupN rs q rs.length := by rw [List.getD_eq_getElem?_getD, List.getElem?_eq_getElem ha]; exact List.getElem_mem ha
    obtain ⟨p, hp, he, hr⟩ := group_mem.mp hmem
    unfold metG at h
    rw [Bool.or_eq_true] at h
    intro e
    rcases h with h | h
    · obtain ⟨k, hk, h⟩ := any_iff.mp h
      unfold hitT at h
      rw [Bool.and_eq_true] at h
      have := has_mem.mp h.1
      rw [he] at this
      have := task_user (is := is) hk (uses_yes hr this)
      rw [e] at this
      cases this
    · obtain ⟨k, hk, h⟩ := any_iff.mp h
      unfold hitI at h
      rw [Bool.and_eq_true] at h
      have := has_mem.mp h.1
      rw [he] at this
      have := isr_user (ts := ts) hk (uses_yes hr this)
      rw [e] at this
      cases this
  · intro hne
    have conv : ∀ l : List Int, (∀ r ∈ l, -1 < r ∧ r < rs.length) → usesF rs q l = true → ∃ a, a < (groupN rs q rs.length).length ∧ hasF l ((groupN rs q rs.length).getD a 0) = true := by
      intro l hl hu
      obtain ⟨r, hr, he⟩ := List.any_eq_true.mp hu
      have hrr := hl r hr
      have hm : r ∈ groupN rs q rs.length := group_mem.mpr ⟨r.toNat, by omega, by omega, by simpa using he⟩
      obtain ⟨a, ha, e⟩ := List.getElem_of_mem hm
      refine ⟨a, ha, ?_⟩
      rw [List.getD_eq_getElem?_getD, List.getElem?_eq_getElem ha]
      exact has_mem.mpr (by rw [Option.getD_some, e]; exact hr)
    rcases ceil_at (ts := ts) (rs := rs) (is := is) (q := q) with ⟨h, _⟩ | ⟨u, hu, he⟩
    · exact absurd h hne
    · rcases user_of hu with ⟨k, hk, rfl, hus⟩ | ⟨k, hk, rfl, hus⟩
      · obtain ⟨a, ha, hh⟩ := conv _ (rises_range _ _ _ (hin.t k hk)) hus
        refine ⟨a, ha, ?_⟩
        unfold metG
        rw [Bool.or_eq_true]
        exact .inl (any_iff.mpr ⟨k, hk, by unfold hitT; rw [hh, Bool.true_and]; simpa using he⟩)
      · obtain ⟨a, ha, hh⟩ := conv _ (rises_range _ _ _ (hin.i k hk)) hus
        refine ⟨a, ha, ?_⟩
        unfold metG
        rw [Bool.or_eq_true]
        exact .inr (any_iff.mpr ⟨k, hk, by unfold hitI; rw [hh, Bool.true_and]; simpa using he⟩)
theorem users_len {ts : List S64} {rs : List S73} {is : List S66} {q : Nat} : 0 < (tuL rs ts q ts.length).length + (iuL rs is q is.length).length ↔ allUsers ts rs is q ≠ [] := by
  have h1 := tasks_tu rs ts q ts.length
  have h2 := isrs_iu rs is q is.length
  constructor
  · intro h e
    have e1 : taskUsers rs ts q ts.length = [] := (List.append_eq_nil_iff.mp e).1
    have e2 : isrUsers rs is q is.length = [] := (List.append_eq_nil_iff.mp e).2
    rw [e1] at h1
    rw [e2] at h2
    rw [← h1.1, ← h2.1] at h
    simp [tasksOf, isrsOf] at h
  · intro hne
    rcases Nat.eq_zero_or_pos ((tuL rs ts q ts.length).length + (iuL rs is q is.length).length) with h | h
    · exfalso
      obtain ⟨u, hu⟩ := List.exists_mem_of_ne_nil _ hne
      rcases user_of hu with ⟨k, hk, _, hus⟩ | ⟨k, hk, _, hus⟩
      · have : (k : Int) ∈ tuL rs ts q ts.length := List.mem_map.mpr ⟨k, List.mem_filter.mpr ⟨List.mem_range.mpr hk, hus⟩, rfl⟩
        have := List.length_pos_of_mem this
        omega
      · have : (k : Int) ∈ iuL rs is q is.length := List.mem_map.mpr ⟨k, List.mem_filter.mpr ⟨List.mem_range.mpr hk, hus⟩, rfl⟩
        have := List.length_pos_of_mem this
        omega
    · exact h
end Go.Proofs.Ytflkbheginhfiaa.XA
/- CeilGrows: the plain law: one task's priority is greater. -/
namespace Go.Proofs.Ytflkbheginhfiaa.XA
set_option linter.unusedVariables false
set_option linter.unusedSimpArgs false
open Go.RowKit Go.WideMaps Go.Maps Go.Proofs.YtflkbheginhfiaaW.PrintWords Go.Proofs.YtflkbheginhfiaaW.PrintLast Go.Proofs.YtflkbheginhfiaaW.PrintMore
structure Up (ts ts' : List S64) (j : Nat) : Prop where
  len : ts'.length = ts.length
  two : ∀ k, (ts'.getD k z64).f2 = (ts.getD k z64).f2
  five : ∀ k, (ts'.getD k z64).f5 = (ts.getD k z64).f5
  up : ∀ k, (ts.getD k z64).f1 ≤ (ts'.getD k z64).f1
  off : ∀ k, k ≠ j → (ts'.getD k z64).f1 = (ts.getD k z64).f1
def bumpT (t : S64) (v : Int) : S64 := ⟨t.f0, v, t.f2, t.f3, t.f4, t.f5, t.f6, t.f7⟩
def bump (ts : List S64) (j : Nat) (v : Int) : List S64 := ts.set j (bumpT (ts.getD j z64) v)
theorem bump_getD (ts : List S64) (j : Nat) (v : Int) (hj : j < ts.length) (k : Nat) : (bump ts j v).getD k z64 = if k = j then bumpT (ts.getD j z64) v else ts.getD k z64 := by
  unfold bump
  simp only [List.getD_eq_getElem?_getD, List.getElem?_set]
  by_cases h : k = j
  · subst h
    simp [hj]
  · simp [h, Ne.symm h]
theorem bump_up (ts : List S64) (j : Nat) (v : Int) (hj : j < ts.length) (hv : (ts.getD j z64).f1 ≤ v) : Up ts (bump ts j v) j where
  len := by unfold bump; simp
  two := fun k => by
    rw [bump_getD ts j v hj]
    split
    · subst_vars; rfl
    · rfl
  five := fun k => by
    rw [bump_getD ts j v hj]
    split
    · subst_vars; rfl
    · rfl
  up := fun k => by
    rw [bump_getD ts j v hj]
    split
    · subst_vars; exact hv
    · exact Int.le_refl _
  off := fun k hk => by rw [bump_getD ts j v hj, if_neg hk]
theorem bump_cp (ts : List S64) (j : Nat) (v : Int) : (bump ts j v).map cpT = bump (ts.map cpT) j v := by
  unfold bump
  rw [List.map_set, gT]
  rfl
section
variable {ts ts' : List S64} {j : Nat} {rs : List S73} {is : List S66}
theorem Up.refs (h : Up ts ts' j) : RefsOk ts' rs is ↔ RefsOk ts rs is := by
  constructor
  · intro q
    refine ⟨fun k hk => ?_, q.i, q.r⟩
    have := q.t k (by rw [h.len]; exact hk)
    rw [h.five] at this
    exact this
  · intro q
    refine ⟨fun k hk => ?_, q.i, q.r⟩
    rw [h.len] at hk
    rw [h.five]
    exact q.t k hk
theorem Up.inner (h : Up ts ts' j) : InnerOk ts' rs is ↔ InnerOk ts rs is := by
  constructor
  · intro q
    refine ⟨fun k hk => ?_, q.i, q.r⟩
    have := q.t k (by rw [h.len]; exact hk)
    rw [h.five] at this
    exact this
  · intro q
    refine ⟨fun k hk => ?_, q.i, q.r⟩
    rw [h.len] at hk
    rw [h.five]
    exact q.t k hk
theorem Up.check (h : Up ts ts' j) : checkV ts' rs is = checkV ts rs is := by
  have h1 := propext (h.refs (rs := rs) (is := is))
  have h2 := propext (h.inner (rs := rs) (is := is))
  unfold checkV
  rw [h1, h2]
theorem Up.ceil (h : Up ts ts' j) (q : Nat) : ceilF ts rs is q ≤ ceilF ts' rs is q := by
  rcases ceil_at (ts := ts) (rs := rs) (is := is) (q := q) with ⟨h0, h1⟩ | ⟨u, hu, he⟩
  · rw [h1]
    rcases ceil_at (ts := ts') (rs := rs) (is := is) (q := q) with ⟨_, h2⟩ | ⟨u, hu, _⟩
    · rw [h2]
      exact Int.le_refl _
    · exfalso
      have hn : ∀ v, v ∉ allUsers ts rs is q := fun v hv => by rw [h0] at hv; cases hv
      rcases user_of hu with ⟨k, hk, _, h3⟩ | ⟨k, hk, _, h3⟩
      · rw [h.five] at h3
        rw [h.len] at hk
        exact hn _ (task_user hk h3)
      · exact hn _ (isr_user hk h3)
  · rw [← he]
    rcases user_of hu with ⟨k, hk, rfl, h3⟩ | ⟨k, hk, rfl, h3⟩
    · have hm := ceil_ge (ts := ts') (rs := rs) (is := is) (q := q) _ (task_user (k := k) (by rw [h.len]; exact hk) (by rw [h.five]; exact h3))
      exact Int.le_trans (h.up k) hm
    · exact ceil_ge (ts := ts') (rs := rs) (is := is) (q := q) _ (isr_user hk h3)
theorem Up.ceil_off (h : Up ts ts' j) (q : Nat) (hu : usesF rs q (ts.getD j z64).f5 = false) : ceilF ts' rs is q = ceilF ts rs is q := by
  have e : taskUsers rs ts' q ts'.length = taskUsers rs ts q ts.length := by
    unfold taskUsers
    rw [h.len]
    congr 1
    funext k
    rw [h.five]
    by_cases hk : k = j
    · subst hk
      rw [hu]
      rfl
    · rw [h.off k hk]
  unfold ceilF
  rw [e]
theorem Up.sch (h : Up ts ts' j) : ∀ k, schF ts k ≤ schF ts' k
  | 0 => Int.le_refl _
  | k + 1 => by
    have h1 := h.sch k
    have h2 := h.up k
    unfold schF
    split <;> omega
theorem runP_mono {ts ts' : List S64} (hc : ∀ q, ceilF ts rs is q ≤ ceilF ts' rs is q) : ∀ (l : List Int) (p p' : Int), p ≤ p' → runP ts rs is l p ≤ runP ts' rs is l p'
  | [], p, p', h => h
  | r :: l, p, p', h => by
    unfold runP
    rw [List.foldl_cons, List.foldl_cons]
    refine runP_mono hc l _ _ ?_
    have := hc r.toNat
    split
    · omega
    · exact h
theorem runP_ge : ∀ (l : List Int) (p : Int), p ≤ runP ts rs is l p
  | [], p => Int.le_refl _
  | r :: l, p => by
    unfold runP
    rw [List.foldl_cons]
    refine Int.le_trans ?_ (runP_ge l _)
    split
    · omega
    · exact Int.le_refl _
theorem Up.run (h : Up ts ts' j) (k : Nat) : runF ts rs is (ts.getD k z64) ≤ runF ts' rs is (ts'.getD k z64) := by
  unfold runF
  rw [h.two, h.five, h.len]
  have h1 := runP_mono (rs := rs) (is := is) (fun q => h.ceil q) (ts.getD k z64).f5 _ _ (h.up k)
  have h2 := h.sch ts.length
  split <;> omega
theorem run_own (t : S64) : t.f1 ≤ runF ts rs is t := by
  unfold runF
  have h1 := runP_ge (ts := ts) (rs := rs) (is := is) t.f5 t.f1
  split <;> omega
theorem tu_has (q k n : Nat) (hk : k < n) : hasF (tuL rs ts q n) (k : Int) = usesF rs q (ts.getD k z64).f5 := by
  cases hu : usesF rs q (ts.getD k z64).f5 with
  | true =>
    rw [has_mem]
    exact List.mem_map.mpr ⟨k, List.mem_filter.mpr ⟨List.mem_range.mpr hk, hu⟩, rfl⟩
  | false =>
    rw [← Bool.not_eq_true, has_mem]
    intro hm
    obtain ⟨i, hi, e⟩ := List.mem_map.mp hm
    have e2 : i = k := by omega
    subst e2
    have := (List.mem_filter.mp hi).2
    rw [hu] at this
    cases this
theorem getD_range (f : Nat → Int) (n i : Nat) (hi : i < n) : ((List.range n).map f).getD i 0 = f i := by
  rw [List.getD_eq_getElem?_getD, List.getElem?_map, List.getElem?_range hi]
  rfl
theorem grows_law (hz : checkV ts rs is = 0) (h : Up ts ts' j) (b : Bool) :
    (reckonV ts' rs is b).er = 0 ∧ (reckonV ts rs is b).l0.length = rs.length ∧ (reckonV ts' rs is b).l0.length = rs.length ∧ (reckonV ts rs is b).l2.length = ts.length ∧ (reckonV ts' rs is b).l2.length = ts.length ∧ (reckonV ts rs is b).s ≤ (reckonV ts' rs is b).s ∧
    (∀ i, i < rs.length → (reckonV ts rs is b).l0.getD i 0 ≤ (reckonV ts' rs is b).l0.getD i 0 ∧ (usesF rs i (ts.getD j z64).f5 = false → (reckonV ts' rs is b).l0.getD i 0 = (reckonV ts rs is b).l0.getD i 0)) ∧
    ∀ i, i < ts.length → (reckonV ts rs is b).l2.getD i 0 ≤ (reckonV ts' rs is b).l2.getD i 0 ∧ (ts.getD i z64).f1 ≤ (reckonV ts rs is b).l2.getD i 0 := by
  have hz2 : checkV ts' rs is = 0 := by rw [h.check]; exact hz
  unfold reckonV
  rw [if_neg (show ¬ (checkV ts' rs is ≠ 0) from fun e => e hz2), if_neg (show ¬ (checkV ts rs is ≠ 0) from fun e => e hz)]
  refine ⟨rfl, ceils_len _ _ _ _, ceils_len _ _ _ _, by simp [runsF], by simp [runsF, h.len], ?_, fun i hi => ?_, fun i hi => ?_⟩
  · rw [h.len]
    exact h.sch _
  · unfold ceilsF
    dsimp only
    rw [getD_range _ _ _ hi, getD_range _ _ _ hi]
    exact ⟨h.ceil i, fun hu => h.ceil_off i hu⟩
  · unfold runsF
    dsimp only
    rw [getD_range _ _ _ hi, getD_range _ _ _ (by rw [h.len]; exact hi)]
    exact ⟨h.run i, run_own _⟩
end
end Go.Proofs.Ytflkbheginhfiaa.XA
/- one task's priority is written in a row of tasks. -/
namespace Go.Proofs.Ytflkbheginhfiaa.XA
set_option linter.unusedVariables false
set_option linter.unusedSimpArgs false
open Go.RowKit Go.WideMaps Go.Maps Go.Proofs.YtflkbheginhfiaaW.PrintWords Go.Proofs.YtflkbheginhfiaaW.PrintLast Go.Proofs.YtflkbheginhfiaaW.PrintMore
structure Tight (ts : List S64) (is : List S66) : Prop where
  tb : ts.length * 136 ≤ 140737488355328
  ib : is.length * 80 ≤ 140737488355328
  t : ∀ k, k < ts.length → (ts.getD k z64).f5.length ≤ 17592186044416
  i : ∀ k, k < is.length → (is.getD k z66).f3.length ≤ 17592186044416
theorem task_g {w : World} {A : Option Addr} {ts : List S64} (h : k64.C w A ts.length ts) (k : Nat) (hk : k < ts.length) :
    ∃ ad A5 c5, A = some ad ∧ w.cell? ⟨(ad.add (k * 8)).block, (ad.add (k * 8)).off + 1, none⟩ = some (.int .i64 (ts.getD k z64).f1) ∧ w.cell? ⟨(ad.add (k * 8)).block, (ad.add (k * 8)).off + 2, none⟩ = some (.bool (ts.getD k z64).f2) ∧ w.cell? ⟨(ad.add (k * 8)).block, (ad.add (k * 8)).off + 5, none⟩ = some (.slice A5 (ts.getD k z64).f5.length c5) ∧ (Kd.int .i64).C w A5 (ts.getD k z64).f5.length (ts.getD k z64).f5 := by
  obtain ⟨ad, A4, c4, A5, c5, A6, c6, A7, c7, e, _, h1, h2, _, _, h5, _, _, _, _, l5, g5, _⟩ := at_T64 h (k : Int) (by omega) (by omega)
  unfold rd_T64 at h1 h2 h5 l5 g5
  rw [Int.toNat_natCast] at h1 h2 h5 l5 g5
  exact ⟨ad, A5, c5, e, h1, h2, h5, g5⟩
theorem addr0 (g k : Nat) : (⟨g, 0, none⟩ : Addr).add k = ⟨g, k, none⟩ := by
  unfold Addr.add
  split <;> simp_all
theorem bump_row {W : World} {b g n cap : Nat} {lT : List S64} (h : k64.R 64 W b (fun _ => True) (.slice (some ⟨g, 0, none⟩) n cap) lT) (j : Nat) (hj : j < n) (v : Int) :
    k64.R 64 (W.setCell ⟨g, j * 8 + 1, none⟩ (.int .i64 v)) b (fun _ => True) (.slice (some ⟨g, 0, none⟩) n cap) (bump lT j v) ∧ W.grownBy (W.setCell ⟨g, j * 8 + 1, none⟩ (.int .i64 v)) (some g) := by
  obtain ⟨c, hcl, hM, hcc⟩ := Kd.R_getA h z64 (j : Int) (by omega) (by omega)
  rw [Int.toNat_natCast] at hM hcc
  obtain ⟨v4, v5, v6, v7, rfl, g4, g5, g6, g7⟩ := k64_openM hM
  have hs := Kd.R_seg (okp := fun k => True ∧ some k ≠ (Value.slice (some ⟨g, 0, none⟩) n cap).ownBlock) h (j : Int) (by omega) (by omega) (seg := [.int .i64 v]) (j := 1) hcl (fun i u hi => by
    have := hcc i u hi
    rw [addr0] at this
    rw [Int.toNat_natCast]
    exact this) (by show 1 + 1 ≤ 8; omega) (x' := bumpT (lT.getD j z64) v) (k64_mkM _ _ _ (bumpT (lT.getD j z64) v) g4 g5 g6 g7) (fun k hk => ⟨trivial, fun e => hk.2 (by rw [e]; rfl)⟩)
  rw [Int.toNat_natCast] at hs
  exact hs
theorem bump_cell {W : World} {b g n cap : Nat} {lT : List S64} (h : k64.R 64 W b (fun _ => True) (.slice (some ⟨g, 0, none⟩) n cap) lT) (j : Nat) (hj : j < n) :
    W.cell? ⟨g, j * 8 + 1, none⟩ = some (.int .i64 (lT.getD j z64).f1) := by
  obtain ⟨c, hcl, hM, hcc⟩ := Kd.R_getA h z64 (j : Int) (by omega) (by omega)
  rw [Int.toNat_natCast] at hM hcc
  obtain ⟨v4, v5, v6, v7, rfl, g4, g5, g6, g7⟩ := k64_openM hM
  have := hcc 1 _ rfl
  rw [addr0] at this
  exact this
theorem bump_len (ts : List S64) (j : Nat) (v : Int) : (bump ts j v).length = ts.length := by unfold bump; simp
theorem good_bump {AT : Option Addr} {cT : Nat} {AR : Option Addr} {cR : Nat} {AI : Option Addr} {cI : Nat} {ts : List S64} {rs : List S73} {is : List S66} {w w1 : World} {b k : Nat} {v : Int} (g : Good AT cT AR cR AI cI ts rs is w) {AT2 : Option Addr} {dT : Nat} {AR2 : Option Addr} {dR : Nat} {AI2 : Option Addr} {dI : Nat} {o1 o2 o3 : Nat → Prop} (h1 : k64.R 64 w1 b o1 (.slice AT2 ts.length dT) (bump (ts.map cpT) k v)) (h2 : k73.R 73 w1 b o2 (.slice AR2 rs.length dR) rs) (h3 : k66.R 66 w1 b o3 (.slice AI2 is.length dI) (is.map cpI)) : Good AT2 dT AR2 dR AI2 dI ((bump ts k v).map cpT) rs (is.map cpI) w1 := by
  rw [← bump_cp] at h1
  obtain ⟨e1, l1, c1⟩ := Kd.R_reads' h1
  obtain ⟨e2, l2, c2⟩ := Kd.R_reads' h2
  obtain ⟨e3, l3, c3⟩ := Kd.R_reads' h3
  refine ⟨⟨by rw [List.length_map, bump_len]; exact l1, c1, l2, c2, by rw [List.length_map]; exact l3, c3⟩, g.r, by rw [List.length_map, bump_len]; exact g.t, by rw [List.length_map]; exact g.i⟩
/-- behind the store: what was there before the copy stays; the copy's box and its other rows too -/
theorem after_bump {AT : Option Addr} {cT : Nat} {AR : Option Addr} {cR : Nat} {AI : Option Addr} {cI : Nat} {ts : List S64} {rs : List S73} {is : List S66} {w2 wv : World} {g0 : World} {D gb cap : Nat} {b : Bool} {AR2 : Option Addr} {dR : Nat} {AI2 : Option Addr} {dI k : Nat} {v : Int} (g : Good AT cT AR cR AI cI ts rs is g0) (hk : k < ts.length) (hD : gb < D) (hb : Below w2.heap.size w2 wv) (hgb : w2.heap.size ≤ gb)
    (hbox : BoxAt wv D (cpCV b) (some ⟨gb, 0, none⟩) cap AR2 dR AI2 dI ts.length rs.length is.length)
    (rt : k64.R 64 wv w2.heap.size (fun _ => True) (.slice (some ⟨gb, 0, none⟩) ts.length cap) (ts.map cpT)) (rr : k73.R 73 wv w2.heap.size (fun _ => True) (.slice AR2 rs.length dR) rs) (ri : k66.R 66 wv w2.heap.size (fun _ => True) (.slice AI2 is.length dI) (is.map cpI)) :
    Below w2.heap.size w2 (wv.setCell ⟨gb, k * 8 + 1, none⟩ (.int .i64 v)) ∧ BoxAt (wv.setCell ⟨gb, k * 8 + 1, none⟩ (.int .i64 v)) D (cpCV b) (some ⟨gb, 0, none⟩) cap AR2 dR AI2 dI ts.length rs.length is.length ∧ Good (some ⟨gb, 0, none⟩) cap AR2 dR AI2 dI ((bump ts k v).map cpT) rs (is.map cpI) (wv.setCell ⟨gb, k * 8 + 1, none⟩ (.int .i64 v)) := by
  obtain ⟨hr, hg⟩ := bump_row rt k hk v
  have hbg : some D ≠ some gb := fun e => by injection e with e; omega
  obtain ⟨cs, hc⟩ := Kd.R_typed rt gb rfl
  have h2 := Kd.R_grown (Kd.R_types rr hc (by decide)) hg (fun q hq e => by injection e with e; exact hq.2 e)
  have h3 := Kd.R_grown (Kd.R_types ri hc (by decide)) hg (fun q hq e => by injection e with e; exact hq.2 e)
  exact ⟨hb.setCell hgb _, hbox.grown hg hbg, good_bump g hr h2 h3⟩
end Go.Proofs.Ytflkbheginhfiaa.XA
