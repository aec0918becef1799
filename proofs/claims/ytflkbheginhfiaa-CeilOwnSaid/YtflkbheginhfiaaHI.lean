/- the law's example configuration, and what the law asks of it. -/
import Derived.Test.YtflkbheginhfiaaHG
namespace Go.Proofs.Ytflkbheginhfiaa.XA
set_option linter.unusedVariables false
set_option linter.unusedSimpArgs false
open Go.RowKit Go.WideMaps Go.Maps Go.Proofs.YtflkbheginhfiaaW.PrintWords Go.Proofs.YtflkbheginhfiaaW.PrintLast Go.Proofs.YtflkbheginhfiaaW.PrintMore
def emp : ByteArray := ⟨#[]⟩
def t1v : S64 := ⟨⟨#[]⟩, 1, true, 0, [], [0], [], []⟩
def t2v : S64 := ⟨⟨#[]⟩, 3, true, 0, [], [1], [], []⟩
def t3v : S64 := ⟨⟨#[]⟩, 2, false, 0, [], [2], [], []⟩
def oneT : List S64 := [t1v, t2v, t3v]
def badT : List S64 := [⟨⟨#[]⟩, 1, true, 0, [], [3], [], []⟩, t2v, t3v]
def oneR : List S73 := [⟨⟨#[]⟩, 1, 0⟩, ⟨⟨#[]⟩, 2, 0⟩, ⟨⟨#[]⟩, 3, 0⟩]
def oneI : List S66 := [⟨⟨#[]⟩, 0, 70, [0], []⟩]
def oneX : CV := ⟨⟨#[]⟩, ⟨#[]⟩, false, false, false, false, false, false, false, false, none, 0, 0, none, 0, 0, none, 0, 0, none, 0, 0, none, 0, 0⟩
def adr (b : Nat) : Option Addr := some ⟨b, 0, none⟩
def taskC (p : Int) (f : Bool) (v : Value) : List Value := [.string ⟨#[]⟩, .int .i64 p, .bool f, .int .i64 0, .slice none 0 0, v, .slice none 0 0, .slice none 0 0]
structure OneAt (w : World) (b b0 : Nat) : Prop where
  l0 : w.heap[b0]? = some (.cells #[.int .i64 (if b0 = b then 0 else 3)] 3 (0, 0))
  l1 : w.heap[b + 1]? = some (.cells #[.int .i64 1] 3 (0, 0))
  l2 : w.heap[b + 2]? = some (.cells #[.int .i64 2] 3 (0, 0))
  t : w.heap[b + 3]? = some (.cells (taskC 1 true (.slice (adr b0) 1 1) ++ taskC 3 true (.slice (adr (b + 1)) 1 1) ++ taskC 2 false (.slice (adr (b + 2)) 1 1)).toArray 64 (0, 0))
  r : w.heap[b + 4]? = some (.cells #[.string ⟨#[]⟩, .int .i64 1, .int .i64 0, .string ⟨#[]⟩, .int .i64 2, .int .i64 0, .string ⟨#[]⟩, .int .i64 3, .int .i64 0] 73 (0, 0))
  m : w.heap[b + 5]? = some (.cells #[.int .i64 0] 3 (0, 0))
  i : w.heap[b + 6]? = some (.cells #[.string ⟨#[]⟩, .int .i64 0, .int .i64 70, .slice (adr (b + 5)) 1 1, .slice none 0 0] 66 (0, 0))
theorem OneAt.below {w w1 : World} {b b0 : Nat} (h : OneAt w b b0) (hB : Below w.heap.size w w1) : OneAt w1 b b0 :=
  ⟨(hB.block _ (blk_lt h.l0)).trans h.l0, (hB.block _ (blk_lt h.l1)).trans h.l1, (hB.block _ (blk_lt h.l2)).trans h.l2, (hB.block _ (blk_lt h.t)).trans h.t, (hB.block _ (blk_lt h.r)).trans h.r, (hB.block _ (blk_lt h.m)).trans h.m, (hB.block _ (blk_lt h.i)).trans h.i⟩
theorem cell_of {w : World} {B e j : Nat} {cs : Array Value} {u : Value} (h : w.heap[B]? = some (.cells cs e (0, 0))) (hu : cs[j]? = some u) : w.cell? ((⟨B, 0, none⟩ : Addr).add j) = some u := by
  have e : (⟨B, 0, none⟩ : Addr).add j = ⟨B, j, none⟩ := by unfold Addr.add; split <;> simp_all
  rw [e]
  simp [World.cell?, h, hu]
theorem int1 {w : World} {B : Nat} {n : Int} (h : w.heap[B]? = some (.cells #[.int .i64 n] 3 (0, 0))) : (Kd.int .i64).C w (adr B) 1 [n] :=
  ⟨rfl, by decide, fun _ => ⟨_, rfl, fun j p hj => by
    cases j with
    | succ j => simp at hj
    | zero =>
      simp at hj
      subst hj
      exact ⟨[.int .i64 n], rfl, rfl, fun i u hu => by
        cases i with
        | zero =>
          simp at hu
          subst hu
          exact cell_of h rfl
        | succ i => simp at hu⟩⟩⟩
theorem intn (w : World) : (Kd.int .i64).C w none 0 [] := ⟨rfl, by decide, fun h => by omega⟩
theorem tab_of {α : Type} {d : Kd α} {w : World} {B e : Nat} {cs : List Value} {xs : List α} (h : w.heap[B]? = some (.cells cs.toArray e (0, 0))) (hn : xs.length ≤ 9223372036854775807)
    (hr : ∀ j p, xs[j]? = some p → ∃ c, c.length = d.sz ∧ d.K w p c ∧ ∀ i u, c[i]? = some u → cs[j * d.sz + i]? = some u) : d.C w (adr B) xs.length xs :=
  ⟨rfl, hn, fun _ => ⟨_, rfl, fun j p hj => by
    obtain ⟨c, h1, h2, h3⟩ := hr j p hj
    exact ⟨c, h1, h2, fun i u hu => cell_of h (by simpa using h3 i u hu)⟩⟩⟩
theorem one_good {w : World} {b b0 : Nat} (h : OneAt w b b0) : Good (adr (b + 3)) 3 (adr (b + 4)) 3 (adr (b + 6)) 1 (if b0 = b then oneT else badT) oneR oneI w := by
  have hT : k64.C w (adr (b + 3)) 3 (if b0 = b then oneT else badT) := by
    have k1 := k64_mk w ⟨⟨#[]⟩, 1, true, 0, [], [if b0 = b then 0 else 3], [], []⟩ (Nat.le_refl 0) (intn w) (Nat.le_refl 1) (int1 h.l0) (Nat.le_refl 0) (intn w) (Nat.le_refl 0) (intn w)
    have k2 := k64_mk w t2v (Nat.le_refl 0) (intn w) (Nat.le_refl 1) (int1 h.l1) (Nat.le_refl 0) (intn w) (Nat.le_refl 0) (intn w)
    have k3 := k64_mk w t3v (Nat.le_refl 0) (intn w) (Nat.le_refl 1) (int1 h.l2) (Nat.le_refl 0) (intn w) (Nat.le_refl 0) (intn w)
    have e : (if b0 = b then oneT else badT) = [⟨⟨#[]⟩, 1, true, 0, [], [if b0 = b then 0 else 3], [], []⟩, t2v, t3v] := by split <;> rfl
    rw [e]
    refine tab_of (d := k64) h.t (by simp) (fun j p hj => ?_)
    rcases j with _ | _ | _ | j
    · injection hj with hj
      subst hj
      exact ⟨_, rfl, k1, fun i u hu => by rcases i with _ | _ | _ | _ | _ | _ | _ | _ | i <;> first | exact hu | simp at hu⟩
    · injection hj with hj
      subst hj
      exact ⟨_, rfl, k2, fun i u hu => by rcases i with _ | _ | _ | _ | _ | _ | _ | _ | i <;> first | exact hu | simp at hu⟩
    · injection hj with hj
      subst hj
      exact ⟨_, rfl, k3, fun i u hu => by rcases i with _ | _ | _ | _ | _ | _ | _ | _ | i <;> first | exact hu | simp at hu⟩
    · simp at hj
  have hR : k73.C w (adr (b + 4)) 3 oneR := by
    refine tab_of (d := k73) (cs := [.string ⟨#[]⟩, .int .i64 1, .int .i64 0, .string ⟨#[]⟩, .int .i64 2, .int .i64 0, .string ⟨#[]⟩, .int .i64 3, .int .i64 0]) h.r (by decide) (fun j p hj => ?_)
    rcases j with _ | _ | _ | j
    · injection hj with hj
      subst hj
      exact ⟨_, rfl, k73_mk w _, fun i u hu => by rcases i with _ | _ | _ | i <;> first | exact hu | simp at hu⟩
    · injection hj with hj
      subst hj
      exact ⟨_, rfl, k73_mk w _, fun i u hu => by rcases i with _ | _ | _ | i <;> first | exact hu | simp at hu⟩
    · injection hj with hj
      subst hj
      exact ⟨_, rfl, k73_mk w _, fun i u hu => by rcases i with _ | _ | _ | i <;> first | exact hu | simp at hu⟩
    · simp [oneR] at hj
  have hI : k66.C w (adr (b + 6)) 1 oneI := by
    refine tab_of (d := k66) (cs := [.string ⟨#[]⟩, .int .i64 0, .int .i64 70, .slice (adr (b + 5)) 1 1, .slice none 0 0]) h.i (by decide) (fun j p hj => ?_)
    rcases j with _ | j
    · injection hj with hj
      subst hj
      exact ⟨_, rfl, k66_mk w ⟨⟨#[]⟩, 0, 70, [0], []⟩ (Nat.le_refl 1) (int1 h.m) (Nat.le_refl 0) (intn w), fun i u hu => by rcases i with _ | _ | _ | _ | _ | i <;> first | exact hu | simp at hu⟩
    · simp [oneI] at hj
  have hl : (if b0 = b then oneT else badT).length = 3 := by split <;> rfl
  exact ⟨⟨by rw [hl]; exact Nat.le_refl _, by rw [hl]; exact hT, by decide, hR, by decide, hI⟩, by decide, by rw [hl]; decide, by decide⟩
def oneA (b : Nat) : Array Value := #[.string ⟨#[]⟩, .string ⟨#[]⟩, .bool false, .bool false, .bool false, .bool false, .bool false, .bool false, .bool false, .bool false, .slice none 0 0, .slice (adr (b + 3)) 3 3, .slice (adr (b + 4)) 3 3, .slice none 0 0, .slice none 0 0, .slice none 0 0, .slice (adr (b + 6)) 1 1, .slice none 0 0]
theorem one_made (w0 : World) (b : Nat) (hb : w0.heap.size = b) : OneAt (((((((w0.alloc (.cells #[.int .i64 0] 3)).alloc (.cells #[.int .i64 1] 3)).alloc (.cells #[.int .i64 2] 3)).alloc (.cells (taskC 1 true (.slice (adr b) 1 1) ++ taskC 3 true (.slice (adr (b + 1)) 1 1) ++ taskC 2 false (.slice (adr (b + 2)) 1 1)).toArray 64)).alloc (.cells #[.string ⟨#[]⟩, .int .i64 1, .int .i64 0, .string ⟨#[]⟩, .int .i64 2, .int .i64 0, .string ⟨#[]⟩, .int .i64 3, .int .i64 0] 73)).alloc (.cells #[.int .i64 0] 3)).alloc (.cells #[.string ⟨#[]⟩, .int .i64 0, .int .i64 70, .slice (adr (b + 5)) 1 1, .slice none 0 0] 66)) b b := by
  have new : ∀ (w : World) (o : Obj) (k : Nat), w.heap.size = k → (w.alloc o).heap[k]? = some o := fun w o k h => by subst h; exact heap_alloc_new w o
  have old : ∀ (w : World) (o x : Obj) (k : Nat), w.heap[k]? = some x → (w.alloc o).heap[k]? = some x := fun w o x k h => by rw [heap_alloc_old _ _ (blk_lt h)]; exact h
  refine ⟨?_, ?_, ?_, ?_, ?_, ?_, ?_⟩
  · rw [if_pos rfl]
    exact old _ _ _ _ (old _ _ _ _ (old _ _ _ _ (old _ _ _ _ (old _ _ _ _ (old _ _ _ _ (new _ _ _ hb))))))
  · exact old _ _ _ _ (old _ _ _ _ (old _ _ _ _ (old _ _ _ _ (old _ _ _ _ (new _ _ _ (by simp [hb]))))))
  · exact old _ _ _ _ (old _ _ _ _ (old _ _ _ _ (old _ _ _ _ (new _ _ _ (by simp [hb])))))
  · exact old _ _ _ _ (old _ _ _ _ (old _ _ _ _ (new _ _ _ (by simp [hb]))))
  · exact old _ _ _ _ (old _ _ _ _ (new _ _ _ (by simp [hb])))
  · exact old _ _ _ _ (new _ _ _ (by simp [hb]))
  · exact new _ _ _ (by simp [hb])
theorem one_made2 (w : World) : (OneAt ((((((((w.alloc (.cells #[.string ⟨#[]⟩, .string ⟨#[]⟩, .bool false, .bool false, .bool false, .bool false, .bool false, .bool false, .bool false, .bool false, .slice none 0 0, .slice (some ⟨w.heap.size + 1 + 1 + 1 + 1, 0, none⟩) 3 3, .slice (some ⟨w.heap.size + 1 + 1 + 1 + 1 + 1, 0, none⟩) 3 3, .slice none 0 0, .slice none 0 0, .slice none 0 0, .slice (some ⟨w.heap.size + 1 + 1 + 1 + 1 + 1 + 1 + 1, 0, none⟩) 1 1, .slice none 0 0] 36)).alloc (.cells #[.int .i64 0] 3)).alloc (.cells #[.int .i64 1] 3)).alloc (.cells #[.int .i64 2] 3)).alloc (.cells #[.string ⟨#[]⟩, .int .i64 1, .bool true, .int .i64 0, .slice none 0 0, .slice (some ⟨w.heap.size + 1, 0, none⟩) 1 1, .slice none 0 0, .slice none 0 0, .string ⟨#[]⟩, .int .i64 3, .bool true, .int .i64 0, .slice none 0 0, .slice (some ⟨w.heap.size + 1 + 1, 0, none⟩) 1 1, .slice none 0 0, .slice none 0 0, .string ⟨#[]⟩, .int .i64 2, .bool false, .int .i64 0, .slice none 0 0, .slice (some ⟨w.heap.size + 1 + 1 + 1, 0, none⟩) 1 1, .slice none 0 0, .slice none 0 0] 64)).alloc (.cells #[.string ⟨#[]⟩, .int .i64 1, .int .i64 0, .string ⟨#[]⟩, .int .i64 2, .int .i64 0, .string ⟨#[]⟩, .int .i64 3, .int .i64 0] 73)).alloc (.cells #[.int .i64 0] 3)).alloc (.cells #[.string ⟨#[]⟩, .int .i64 0, .int .i64 70, .slice (some ⟨w.heap.size + 1 + 1 + 1 + 1 + 1 + 1, 0, none⟩) 1 1, .slice none 0 0] 66)) (w.heap.size + 1) (w.heap.size + 1) ∧ Below w.heap.size w ((((((((w.alloc (.cells #[.string ⟨#[]⟩, .string ⟨#[]⟩, .bool false, .bool false, .bool false, .bool false, .bool false, .bool false, .bool false, .bool false, .slice none 0 0, .slice (some ⟨w.heap.size + 1 + 1 + 1 + 1, 0, none⟩) 3 3, .slice (some ⟨w.heap.size + 1 + 1 + 1 + 1 + 1, 0, none⟩) 3 3, .slice none 0 0, .slice none 0 0, .slice none 0 0, .slice (some ⟨w.heap.size + 1 + 1 + 1 + 1 + 1 + 1 + 1, 0, none⟩) 1 1, .slice none 0 0] 36)).alloc (.cells #[.int .i64 0] 3)).alloc (.cells #[.int .i64 1] 3)).alloc (.cells #[.int .i64 2] 3)).alloc (.cells #[.string ⟨#[]⟩, .int .i64 1, .bool true, .int .i64 0, .slice none 0 0, .slice (some ⟨w.heap.size + 1, 0, none⟩) 1 1, .slice none 0 0, .slice none 0 0, .string ⟨#[]⟩, .int .i64 3, .bool true, .int .i64 0, .slice none 0 0, .slice (some ⟨w.heap.size + 1 + 1, 0, none⟩) 1 1, .slice none 0 0, .slice none 0 0, .string ⟨#[]⟩, .int .i64 2, .bool false, .int .i64 0, .slice none 0 0, .slice (some ⟨w.heap.size + 1 + 1 + 1, 0, none⟩) 1 1, .slice none 0 0, .slice none 0 0] 64)).alloc (.cells #[.string ⟨#[]⟩, .int .i64 1, .int .i64 0, .string ⟨#[]⟩, .int .i64 2, .int .i64 0, .string ⟨#[]⟩, .int .i64 3, .int .i64 0] 73)).alloc (.cells #[.int .i64 0] 3)).alloc (.cells #[.string ⟨#[]⟩, .int .i64 0, .int .i64 70, .slice (some ⟨w.heap.size + 1 + 1 + 1 + 1 + 1 + 1, 0, none⟩) 1 1, .slice none 0 0] 66))) ∧ Ending.returned (.agg #[.string ⟨#[]⟩, .string ⟨#[]⟩, .bool false, .bool false, .bool false, .bool false, .bool false, .bool false, .bool false, .bool false, .slice none 0 0, .slice (some ⟨w.heap.size + 1 + 1 + 1 + 1, 0, none⟩) 3 3, .slice (some ⟨w.heap.size + 1 + 1 + 1 + 1 + 1, 0, none⟩) 3 3, .slice none 0 0, .slice none 0 0, .slice none 0 0, .slice (some ⟨w.heap.size + 1 + 1 + 1 + 1 + 1 + 1 + 1, 0, none⟩) 1 1, .slice none 0 0]) = .returned (.agg (oneA (w.heap.size + 1))) ∧ ((((((((w.alloc (.cells #[.string ⟨#[]⟩, .string ⟨#[]⟩, .bool false, .bool false, .bool false, .bool false, .bool false, .bool false, .bool false, .bool false, .slice none 0 0, .slice (some ⟨w.heap.size + 1 + 1 + 1 + 1, 0, none⟩) 3 3, .slice (some ⟨w.heap.size + 1 + 1 + 1 + 1 + 1, 0, none⟩) 3 3, .slice none 0 0, .slice none 0 0, .slice none 0 0, .slice (some ⟨w.heap.size + 1 + 1 + 1 + 1 + 1 + 1 + 1, 0, none⟩) 1 1, .slice none 0 0] 36)).alloc (.cells #[.int .i64 0] 3)).alloc (.cells #[.int .i64 1] 3)).alloc (.cells #[.int .i64 2] 3)).alloc (.cells #[.string ⟨#[]⟩, .int .i64 1, .bool true, .int .i64 0, .slice none 0 0, .slice (some ⟨w.heap.size + 1, 0, none⟩) 1 1, .slice none 0 0, .slice none 0 0, .string ⟨#[]⟩, .int .i64 3, .bool true, .int .i64 0, .slice none 0 0, .slice (some ⟨w.heap.size + 1 + 1, 0, none⟩) 1 1, .slice none 0 0, .slice none 0 0, .string ⟨#[]⟩, .int .i64 2, .bool false, .int .i64 0, .slice none 0 0, .slice (some ⟨w.heap.size + 1 + 1 + 1, 0, none⟩) 1 1, .slice none 0 0, .slice none 0 0] 64)).alloc (.cells #[.string ⟨#[]⟩, .int .i64 1, .int .i64 0, .string ⟨#[]⟩, .int .i64 2, .int .i64 0, .string ⟨#[]⟩, .int .i64 3, .int .i64 0] 73)).alloc (.cells #[.int .i64 0] 3)).alloc (.cells #[.string ⟨#[]⟩, .int .i64 0, .int .i64 70, .slice (some ⟨w.heap.size + 1 + 1 + 1 + 1 + 1 + 1, 0, none⟩) 1 1, .slice none 0 0] 66)).heap[w.heap.size]? = some (.cells #[.string ⟨#[]⟩, .string ⟨#[]⟩, .bool false, .bool false, .bool false, .bool false, .bool false, .bool false, .bool false, .bool false, .slice none 0 0, .slice (some ⟨w.heap.size + 1 + 1 + 1 + 1, 0, none⟩) 3 3, .slice (some ⟨w.heap.size + 1 + 1 + 1 + 1 + 1, 0, none⟩) 3 3, .slice none 0 0, .slice none 0 0, .slice none 0 0, .slice (some ⟨w.heap.size + 1 + 1 + 1 + 1 + 1 + 1 + 1, 0, none⟩) 1 1, .slice none 0 0] 36 (0, 0)) := by
  refine ⟨⟨one_made (w.alloc (.cells #[.string ⟨#[]⟩, .string ⟨#[]⟩, .bool false, .bool false, .bool false, .bool false, .bool false, .bool false, .bool false, .bool false, .slice none 0 0, .slice (some ⟨w.heap.size + 1 + 1 + 1 + 1, 0, none⟩) 3 3, .slice (some ⟨w.heap.size + 1 + 1 + 1 + 1 + 1, 0, none⟩) 3 3, .slice none 0 0, .slice none 0 0, .slice none 0 0, .slice (some ⟨w.heap.size + 1 + 1 + 1 + 1 + 1 + 1 + 1, 0, none⟩) 1 1, .slice none 0 0] 36)) (w.heap.size + 1) (by simp), ?_⟩, rfl, ?_⟩
  · exact (((((((Below.refl w.heap.size w).alloc (Nat.le_refl _) _).alloc (by simp) _).alloc (by simp; omega) _).alloc (by simp; omega) _).alloc (by simp; omega) _).alloc (by simp; omega) _).alloc (by simp; omega) _ |>.alloc (by simp; omega) _
  · have old : ∀ (w : World) (o x : Obj) (k : Nat), w.heap[k]? = some x → (w.alloc o).heap[k]? = some x := fun w o x k h => by rw [heap_alloc_old _ _ (blk_lt h)]; exact h
    exact old _ _ _ _ (old _ _ _ _ (old _ _ _ _ (old _ _ _ _ (old _ _ _ _ (old _ _ _ _ (old _ _ _ _ (heap_alloc_new w _)))))))
set_option maxRecDepth 1000000 in
set_option maxHeartbeats 4000000 in
theorem one_calls (w : World) : Calls Try.prog 38 #[] w fun e w' => ∃ b, w.heap.size ≤ b ∧ e = .returned (.agg (oneA b)) ∧ OneAt w' b b ∧ Below w.heap.size w w' := by
  have HW := Aside0.mk (one_made2 w)
  go_enter Try.func38, Try.ntmps38
  go_wp2_with fail
  generalize ((((((((w.alloc (.cells #[.string ⟨#[]⟩, .string ⟨#[]⟩, .bool false, .bool false, .bool false, .bool false, .bool false, .bool false, .bool false, .bool false, .slice none 0 0, .slice (some ⟨w.heap.size + 1 + 1 + 1 + 1, 0, none⟩) 3 3, .slice (some ⟨w.heap.size + 1 + 1 + 1 + 1 + 1, 0, none⟩) 3 3, .slice none 0 0, .slice none 0 0, .slice none 0 0, .slice (some ⟨w.heap.size + 1 + 1 + 1 + 1 + 1 + 1 + 1, 0, none⟩) 1 1, .slice none 0 0] 36)).alloc (.cells #[.int .i64 0] 3)).alloc (.cells #[.int .i64 1] 3)).alloc (.cells #[.int .i64 2] 3)).alloc (.cells #[.string ⟨#[]⟩, .int .i64 1, .bool true, .int .i64 0, .slice none 0 0, .slice (some ⟨w.heap.size + 1, 0, none⟩) 1 1, .slice none 0 0, .slice none 0 0, .string ⟨#[]⟩, .int .i64 3, .bool true, .int .i64 0, .slice none 0 0, .slice (some ⟨w.heap.size + 1 + 1, 0, none⟩) 1 1, .slice none 0 0, .slice none 0 0, .string ⟨#[]⟩, .int .i64 2, .bool false, .int .i64 0, .slice none 0 0, .slice (some ⟨w.heap.size + 1 + 1 + 1, 0, none⟩) 1 1, .slice none 0 0, .slice none 0 0] 64)).alloc (.cells #[.string ⟨#[]⟩, .int .i64 1, .int .i64 0, .string ⟨#[]⟩, .int .i64 2, .int .i64 0, .string ⟨#[]⟩, .int .i64 3, .int .i64 0] 73)).alloc (.cells #[.int .i64 0] 3)).alloc (.cells #[.string ⟨#[]⟩, .int .i64 0, .int .i64 70, .slice (some ⟨w.heap.size + 1 + 1 + 1 + 1 + 1 + 1, 0, none⟩) 1 1, .slice none 0 0] 66)) = w9 at *
  refine bodyPost_ret (results_cell_row rfl _ _ w.heap.size 36 #[.string ⟨#[]⟩, .string ⟨#[]⟩, .bool false, .bool false, .bool false, .bool false, .bool false, .bool false, .bool false, .bool false, .slice none 0 0, .slice (some ⟨w.heap.size + 1 + 1 + 1 + 1, 0, none⟩) 3 3, .slice (some ⟨w.heap.size + 1 + 1 + 1 + 1 + 1, 0, none⟩) 3 3, .slice none 0 0, .slice none 0 0, .slice none 0 0, .slice (some ⟨w.heap.size + 1 + 1 + 1 + 1 + 1 + 1 + 1, 0, none⟩) 1 1, .slice none 0 0] (0, 0) _ rfl HW.out.2.2 Try.underlying36 rfl (by kernel_rfl)) rfl ?_
  exact ⟨w.heap.size + 1, Nat.le_succ _, HW.out.2.1, HW.out.1⟩
end Go.Proofs.Ytflkbheginhfiaa.XA
/- what the law asks of its example. -/
namespace Go.Proofs.Ytflkbheginhfiaa.XA
set_option linter.unusedVariables false
set_option linter.unusedSimpArgs false
open Go.RowKit Go.WideMaps Go.Maps Go.Proofs.YtflkbheginhfiaaW.PrintWords Go.Proofs.YtflkbheginhfiaaW.PrintLast Go.Proofs.YtflkbheginhfiaaW.PrintMore
theorem one_says : checkV oneT oneR oneI = 0 := by
  have h : CheckSays oneT oneR oneI 0 := .inr (.inr (.inr ⟨rfl, ⟨by decide, by decide, fun j hj => by
    have : j = 0 ∨ j = 1 ∨ j = 2 := by simp [oneR] at hj; omega
    rcases this with rfl | rfl | rfl <;> (unfold okRes; decide)⟩, fun i hi => by
    have : i = 0 ∨ i = 1 ∨ i = 2 := by simp [oneR] at hi; omega
    rcases this with rfl | rfl | rfl <;> decide, ⟨by decide, by decide, fun j hj r hr hne => by
    have : j = 0 ∨ j = 1 ∨ j = 2 := by simp [oneR] at hj; omega
    rcases this with rfl | rfl | rfl
    · have h0 : chase oneR (oneR.length + 1) 0 = some 0 := by decide
      rw [h0] at hr
      injection hr with hr
      exact absurd hr.symm hne
    · have h0 : chase oneR (oneR.length + 1) 1 = some 0 := by decide
      rw [h0] at hr
      injection hr with hr
      subst hr
      decide
    · have h0 : chase oneR (oneR.length + 1) 2 = some 2 := by decide
      rw [h0] at hr
      injection hr with hr
      exact absurd hr.symm hne⟩⟩))
  exact (says_v h).symm
theorem bad_says : checkV badT oneR oneI = 80 := by
  have h : CheckSays badT oneR oneI 80 := .inl ⟨rfl, fun h => by
    have := h.t 0 (by decide)
    exact absurd this (by decide)⟩
  exact (says_v h).symm
theorem one_reckon : reckonV oneT oneR oneI false = ⟨[70, 70, 2], 3, [1, 3, 3], [1, 1, 0], [1], 0⟩ := by
  unfold reckonV
  rw [if_neg (by rw [one_says]; decide)]
  simp only [Ceil.mk.injEq]
  decide
theorem one_group : groupV oneT oneR oneI 1 = ([0, 1], 0) := by
  unfold groupV
  rw [if_neg (by rw [one_says]; decide)]
  decide
theorem one_blocks : blocksV oneT oneR oneI 0 1 = ([0], 0) := by
  unfold blocksV
  rw [if_neg (by rw [one_says]; decide)]
  decide
theorem good1 {w : World} {b : Nat} (h : OneAt w b b) : Good (adr (b + 3)) 3 (adr (b + 4)) 3 (adr (b + 6)) 1 oneT oneR oneI w := by
  have g := one_good h
  rw [if_pos rfl] at g
  exact g
theorem rk1 (b : Nat) (w : World) (h : OneAt w b b) : Calls Try.prog 12 #[.agg (oneA b)] w fun e w' => ∃ v0 v2 v3 v4, e = .returned (.tuple #[.agg #[v0, .int .i64 3, v2, v3, v4], .int .i64 0]) ∧ Rd w' v0 [70, 70, 2] ∧ Rd w' v2 [1, 3, 3] ∧ Rd w' v3 [1, 1, 0] ∧ Rd w' v4 [1] ∧ Below w.heap.size w w' := by
  have h1 := reckon_c oneX (adr (b + 3)) 3 (adr (b + 4)) 3 (adr (b + 6)) 1 oneT oneR oneI w (good1 h)
  rw [show oneX.b9 = false from rfl, one_reckon] at h1
  exact h1
theorem gr1 (b : Nat) (w : World) (h : OneAt w b b) : Calls Try.prog 18 #[.agg (oneA b), .int .i64 1] w fun e w' => ∃ v, e = .returned (.tuple #[v, .int .i64 0]) ∧ Rd w' v [0, 1] ∧ Below w.heap.size w w' := by
  have h1 := group_c oneX (adr (b + 3)) 3 (adr (b + 4)) 3 (adr (b + 6)) 1 oneT oneR oneI 1 w (good1 h)
  rw [one_group] at h1
  exact h1
theorem bl1 (b : Nat) (w : World) (h : OneAt w b b) : Calls Try.prog 23 #[.agg (oneA b), .int .i64 0, .int .i64 1] w fun e w' => ∃ v, e = .returned (.tuple #[v, .int .i64 0]) ∧ Rd w' v [0] ∧ Below w.heap.size w w' := by
  have h1 := blocks_c oneX (adr (b + 3)) 3 (adr (b + 4)) 3 (adr (b + 6)) 1 oneT oneR oneI 0 1 w (good1 h)
  rw [one_blocks] at h1
  exact h1
theorem ck1 (b b0 : Nat) (hne : b0 ≠ b) (w : World) (h : OneAt w b b0) : Calls Try.prog 11 #[.agg (oneA b)] w fun e w' => e = .returned (.int .i64 80) ∧ Below w.heap.size w w' := by
  have g := one_good h
  rw [if_neg hne] at g
  have h1 := check_c oneX (adr (b + 3)) 3 (adr (b + 4)) 3 (adr (b + 6)) 1 badT oneR oneI w g
  rw [bad_says] at h1
  exact h1
theorem bad_made (w8 : World) (b : Nat) (h : OneAt w8 b b) : OneAt (((w8.setCell ⟨b + 3, 5, none⟩ (.slice (some ⟨w8.heap.size + 1, 0, none⟩) 1 1)).alloc (.cells #[.string ⟨#[]⟩, .string ⟨#[]⟩, .bool false, .bool false, .bool false, .bool false, .bool false, .bool false, .bool false, .bool false, .slice none 0 0, .slice (some ⟨b + 3, 0, none⟩) 3 3, .slice (some ⟨b + 4, 0, none⟩) 3 3, .slice none 0 0, .slice none 0 0, .slice none 0 0, .slice (some ⟨b + 6, 0, none⟩) 1 1, .slice none 0 0] 36)).alloc (.cells #[.int .i64 3] 3)) b (w8.heap.size + 1) ∧ BoxAt (((w8.setCell ⟨b + 3, 5, none⟩ (.slice (some ⟨w8.heap.size + 1, 0, none⟩) 1 1)).alloc (.cells #[.string ⟨#[]⟩, .string ⟨#[]⟩, .bool false, .bool false, .bool false, .bool false, .bool false, .bool false, .bool false, .bool false, .slice none 0 0, .slice (some ⟨b + 3, 0, none⟩) 3 3, .slice (some ⟨b + 4, 0, none⟩) 3 3, .slice none 0 0, .slice none 0 0, .slice none 0 0, .slice (some ⟨b + 6, 0, none⟩) 1 1, .slice none 0 0] 36)).alloc (.cells #[.int .i64 3] 3)) w8.heap.size oneX (adr (b + 3)) 3 (adr (b + 4)) 3 (adr (b + 6)) 1 3 3 1 ∧ ∀ n, n ≤ b → Below n w8 (((w8.setCell ⟨b + 3, 5, none⟩ (.slice (some ⟨w8.heap.size + 1, 0, none⟩) 1 1)).alloc (.cells #[.string ⟨#[]⟩, .string ⟨#[]⟩, .bool false, .bool false, .bool false, .bool false, .bool false, .bool false, .bool false, .bool false, .slice none 0 0, .slice (some ⟨b + 3, 0, none⟩) 3 3, .slice (some ⟨b + 4, 0, none⟩) 3 3, .slice none 0 0, .slice none 0 0, .slice none 0 0, .slice (some ⟨b + 6, 0, none⟩) 1 1, .slice none 0 0] 36)).alloc (.cells #[.int .i64 3] 3)) := by
  have new : ∀ (w : World) (o : Obj) (k : Nat), w.heap.size = k → (w.alloc o).heap[k]? = some o := fun w o k h => by subst h; exact heap_alloc_new w o
  have old : ∀ (w : World) (o x : Obj) (k : Nat), w.heap[k]? = some x → (w.alloc o).heap[k]? = some x := fun w o x k h => by rw [heap_alloc_old _ _ (blk_lt h)]; exact h
  have sz : (w8.setCell ⟨b + 3, 5, none⟩ (.slice (some ⟨w8.heap.size + 1, 0, none⟩) 1 1)).heap.size = w8.heap.size := World.size_setCell ..
  have oth : ∀ (k : Nat) (x : Obj), k ≠ b + 3 → w8.heap[k]? = some x → (((w8.setCell ⟨b + 3, 5, none⟩ (.slice (some ⟨w8.heap.size + 1, 0, none⟩) 1 1)).alloc (.cells #[.string ⟨#[]⟩, .string ⟨#[]⟩, .bool false, .bool false, .bool false, .bool false, .bool false, .bool false, .bool false, .bool false, .slice none 0 0, .slice (some ⟨b + 3, 0, none⟩) 3 3, .slice (some ⟨b + 4, 0, none⟩) 3 3, .slice none 0 0, .slice none 0 0, .slice none 0 0, .slice (some ⟨b + 6, 0, none⟩) 1 1, .slice none 0 0] 36)).alloc (.cells #[.int .i64 3] 3)).heap[k]? = some x := fun k x hk hx => old _ _ _ _ (old _ _ _ _ ((Below.heap_setCell w8 ⟨b + 3, 5, none⟩ _ k hk).trans hx))
  have hlt : b + 3 < w8.heap.size := blk_lt h.t
  refine ⟨⟨?_, oth _ _ (by omega) h.l1, oth _ _ (by omega) h.l2, ?_, oth _ _ (by omega) h.r, oth _ _ (by omega) h.m, oth _ _ (by omega) h.i⟩, old _ _ _ _ (new _ _ _ sz), fun n hn => ?_⟩
  · rw [if_neg (by omega)]
    exact new _ _ _ (by simp [sz])
  · refine old _ _ _ _ (old _ _ _ _ ?_)
    have ht := h.t
    simp [World.setCell, Array.getElem?_modify, ht, taskC, adr]
  · exact (((Below.refl n w8).setCell (by show n ≤ b + 3; omega) _).alloc (by rw [sz]; omega) _).alloc (by simp [sz]; omega) _
structure Al (w0 w : World) (b q P Pb : Nat) (A0 : Option Addr) (c0 : Nat) (A2 : Option Addr) (c2 : Nat) (A3 : Option Addr) (c3 : Nat) (A4 : Option Addr) (c4 : Nat) (g l : Value) : Prop where
  bel : Below w0.heap.size w0 w
  k : w.heap[P]? = some (.cells #[.slice A0 3 c0, .int .i64 3, .slice A2 3 c2, .slice A3 3 c3, .slice A4 1 c4] 41 (0, 0))
  box : BoxAt w Pb oneX (adr (b + 3)) 3 (adr (b + 4)) 3 (adr (b + 6)) 1 3 3 1
  one : OneAt w b q
  r : Rd w (.slice A0 3 c0) [70, 70, 2] ∧ Rd w (.slice A2 3 c2) [1, 3, 3] ∧ Rd w (.slice A3 3 c3) [1, 1, 0] ∧ Rd w (.slice A4 1 c4) [1] ∧ Rd w g [0, 1] ∧ Rd w l [0]
theorem Al.below {w0 w w1 : World} {b q P Pb : Nat} {A0 : Option Addr} {c0 : Nat} {A2 : Option Addr} {c2 : Nat} {A3 : Option Addr} {c3 : Nat} {A4 : Option Addr} {c4 : Nat} {g l : Value} (h : Al w0 w b q P Pb A0 c0 A2 c2 A3 c3 A4 c4 g l) (hB : Below w.heap.size w w1) : Al w0 w1 b q P Pb A0 c0 A2 c2 A3 c3 A4 c4 g l :=
  ⟨h.bel.trans (hB.mono h.bel.size), (hB.block _ (blk_lt h.k)).trans h.k, h.box.below hB, h.one.below hB, h.r.1.below hB, h.r.2.1.below hB, h.r.2.2.1.below hB, h.r.2.2.2.1.below hB, h.r.2.2.2.2.1.below hB, h.r.2.2.2.2.2.below hB⟩
theorem Al.cells {w0 w : World} {b q P Pb : Nat} {A0 : Option Addr} {c0 : Nat} {A2 : Option Addr} {c2 : Nat} {A3 : Option Addr} {c3 : Nat} {A4 : Option Addr} {c4 : Nat} {g l : Value} (h : Al w0 w b q P Pb A0 c0 A2 c2 A3 c3 A4 c4 g l) : w.cell? ⟨P, 0, none⟩ = some (.slice A0 3 c0) ∧ w.cell? ⟨P, 1, none⟩ = some (.int .i64 3) ∧ w.cell? ⟨P, 2, none⟩ = some (.slice A2 3 c2) ∧ w.cell? ⟨P, 3, none⟩ = some (.slice A3 3 c3) ∧ w.cell? ⟨P, 4, none⟩ = some (.slice A4 1 c4) := by
  have hk := h.k
  exact ⟨by simp [World.cell?, hk], by simp [World.cell?, hk], by simp [World.cell?, hk], by simp [World.cell?, hk], by simp [World.cell?, hk]⟩
theorem lit3 (w : World) (a b c : Int) : Rd (w.alloc (.cells #[.int .i64 a, .int .i64 b, .int .i64 c] 3)) (.slice (some ⟨w.heap.size, 0, none⟩) 3 3) [a, b, c] := by
  refine ⟨adr w.heap.size, 3, rfl, Nat.le_refl _, tab_of (d := Kd.int .i64) (cs := [.int .i64 a, .int .i64 b, .int .i64 c]) (heap_alloc_new w _) (by simp) (fun j p hj => ?_)⟩
  rcases j with _ | _ | _ | j
  · injection hj with hj; subst hj; exact ⟨[.int .i64 a], rfl, rfl, fun i u hu => by rcases i with _ | i <;> first | exact hu | simp at hu⟩
  · injection hj with hj; subst hj; exact ⟨[.int .i64 b], rfl, rfl, fun i u hu => by rcases i with _ | i <;> first | exact hu | simp at hu⟩
  · injection hj with hj; subst hj; exact ⟨[.int .i64 c], rfl, rfl, fun i u hu => by rcases i with _ | i <;> first | exact hu | simp at hu⟩
  · simp at hj
theorem lit2 (w : World) (a b : Int) : Rd (w.alloc (.cells #[.int .i64 a, .int .i64 b] 3)) (.slice (some ⟨w.heap.size, 0, none⟩) 2 2) [a, b] := by
  refine ⟨adr w.heap.size, 2, rfl, Nat.le_refl _, tab_of (d := Kd.int .i64) (cs := [.int .i64 a, .int .i64 b]) (heap_alloc_new w _) (by simp) (fun j p hj => ?_)⟩
  rcases j with _ | _ | j
  · injection hj with hj; subst hj; exact ⟨[.int .i64 a], rfl, rfl, fun i u hu => by rcases i with _ | i <;> first | exact hu | simp at hu⟩
  · injection hj with hj; subst hj; exact ⟨[.int .i64 b], rfl, rfl, fun i u hu => by rcases i with _ | i <;> first | exact hu | simp at hu⟩
  · simp at hj
theorem lit1 (w : World) (a : Int) : Rd (w.alloc (.cells #[.int .i64 a] 3)) (.slice (some ⟨w.heap.size, 0, none⟩) 1 1) [a] := ⟨adr w.heap.size, 1, rfl, Nat.le_refl _, int1 (heap_alloc_new w _)⟩
theorem lits (wx : World) : Rd ((((wx.alloc (.cells #[.int .i64 70, .int .i64 70, .int .i64 2] 3)).alloc (.cells #[.int .i64 1, .int .i64 3, .int .i64 3] 3)).alloc (.cells #[.int .i64 1, .int .i64 1, .int .i64 0] 3)).alloc (.cells #[.int .i64 1] 3)) (.slice (some ⟨wx.heap.size, 0, none⟩) 3 3) [70, 70, 2] ∧ Rd ((((wx.alloc (.cells #[.int .i64 70, .int .i64 70, .int .i64 2] 3)).alloc (.cells #[.int .i64 1, .int .i64 3, .int .i64 3] 3)).alloc (.cells #[.int .i64 1, .int .i64 1, .int .i64 0] 3)).alloc (.cells #[.int .i64 1] 3)) (.slice (some ⟨wx.heap.size + 1, 0, none⟩) 3 3) [1, 3, 3] ∧ Rd ((((wx.alloc (.cells #[.int .i64 70, .int .i64 70, .int .i64 2] 3)).alloc (.cells #[.int .i64 1, .int .i64 3, .int .i64 3] 3)).alloc (.cells #[.int .i64 1, .int .i64 1, .int .i64 0] 3)).alloc (.cells #[.int .i64 1] 3)) (.slice (some ⟨wx.heap.size + 1 + 1, 0, none⟩) 3 3) [1, 1, 0] ∧ Rd ((((wx.alloc (.cells #[.int .i64 70, .int .i64 70, .int .i64 2] 3)).alloc (.cells #[.int .i64 1, .int .i64 3, .int .i64 3] 3)).alloc (.cells #[.int .i64 1, .int .i64 1, .int .i64 0] 3)).alloc (.cells #[.int .i64 1] 3)) (.slice (some ⟨wx.heap.size + 1 + 1 + 1, 0, none⟩) 1 1) [1] ∧ Below wx.heap.size wx ((((wx.alloc (.cells #[.int .i64 70, .int .i64 70, .int .i64 2] 3)).alloc (.cells #[.int .i64 1, .int .i64 3, .int .i64 3] 3)).alloc (.cells #[.int .i64 1, .int .i64 1, .int .i64 0] 3)).alloc (.cells #[.int .i64 1] 3)) := by
  have b : ∀ (w : World) (o : Obj), Below w.heap.size w (w.alloc o) := fun w o => (Below.refl _ _).alloc (Nat.le_refl _) _
  have h0 := lit3 wx 70 70 2
  have h1 := lit3 (wx.alloc (.cells #[.int .i64 70, .int .i64 70, .int .i64 2] 3)) 1 3 3
  have h2 := lit3 ((wx.alloc (.cells #[.int .i64 70, .int .i64 70, .int .i64 2] 3)).alloc (.cells #[.int .i64 1, .int .i64 3, .int .i64 3] 3)) 1 1 0
  have h3 := lit1 (((wx.alloc (.cells #[.int .i64 70, .int .i64 70, .int .i64 2] 3)).alloc (.cells #[.int .i64 1, .int .i64 3, .int .i64 3] 3)).alloc (.cells #[.int .i64 1, .int .i64 1, .int .i64 0] 3)) 1
  rw [World.size_alloc] at h1
  rw [World.size_alloc, World.size_alloc] at h2
  rw [World.size_alloc, World.size_alloc, World.size_alloc] at h3
  refine ⟨((h0.below (b _ _)).below (b _ _)).below (b _ _), (h1.below (b _ _)).below (b _ _), h2.below (b _ _), h3, ?_⟩
  exact ((((Below.refl wx.heap.size wx).alloc (Nat.le_refl _) _).alloc (by simp) _).alloc (by simp; omega) _).alloc (by simp; omega) _
set_option maxRecDepth 1000000 in
set_option maxHeartbeats 4000000 in
theorem alive_calls (w : World) : Calls Try.prog 17 #[] w fun e w' => e = .returned (.bool true) ∧ Below w.heap.size w w' := by
  go_enter Try.func17, Try.ntmps17
  go_wp2_with fail
  refine (one_calls _).mono ?_
  rintro e w1 ⟨b1, hb1, rfl, o1, B1⟩
  have HB1 := Aside0.mk B1
  have HO1 := Aside0.mk o1
  clear hb1 o1 B1
  generalize hoa : oneA b1 = A1 at *
  have HOA := Aside0.mk hoa
  clear hoa
  go_wp2_with fail
  rw [← HOA.out]
  refine (rk1 b1 w1 HO1.out).mono ?_
  rintro e w2 ⟨v0, v2, v3, v4, rfl, r0, r2, r3, r4, B2⟩
  obtain ⟨A0, c0, e0, _, _⟩ := id r0
  have e0 : v0 = .slice A0 3 c0 := e0
  subst e0
  obtain ⟨A2, c2, e2, _, _⟩ := id r2
  have e2 : v2 = .slice A2 3 c2 := e2
  subst e2
  obtain ⟨A3, c3, e3, _, _⟩ := id r3
  have e3 : v3 = .slice A3 3 c3 := e3
  subst e3
  obtain ⟨A4, c4, e4, _, _⟩ := id r4
  have e4 : v4 = .slice A4 1 c4 := e4
  subst e4
  have HB2 := Aside0.mk (HB1.out.trans (B2.mono HB1.out.size))
  have hbx : Below w2.heap.size w2 (w2.alloc (.cells #[(.slice A0 3 c0), .int .i64 3, (.slice A2 3 c2), (.slice A3 3 c3), (.slice A4 1 c4)] 41)) := (Below.refl _ _).alloc (Nat.le_refl _) _
  have HK := Aside0.mk (show (w2.alloc (.cells #[(.slice A0 3 c0), .int .i64 3, (.slice A2 3 c2), (.slice A3 3 c3), (.slice A4 1 c4)] 41)).heap[w2.heap.size]? = some (.cells #[(.slice A0 3 c0), .int .i64 3, (.slice A2 3 c2), (.slice A3 3 c3), (.slice A4 1 c4)] 41 (0, 0)) from heap_alloc_new w2 _)
  have HB3 := Aside0.mk (HB2.out.trans (hbx.mono HB2.out.size))
  have HR := Aside0.mk (show Rd (w2.alloc (.cells #[(.slice A0 3 c0), .int .i64 3, (.slice A2 3 c2), (.slice A3 3 c3), (.slice A4 1 c4)] 41)) (.slice A0 3 c0) [70, 70, 2] ∧ Rd (w2.alloc (.cells #[(.slice A0 3 c0), .int .i64 3, (.slice A2 3 c2), (.slice A3 3 c3), (.slice A4 1 c4)] 41)) (.slice A2 3 c2) [1, 3, 3] ∧ Rd (w2.alloc (.cells #[(.slice A0 3 c0), .int .i64 3, (.slice A2 3 c2), (.slice A3 3 c3), (.slice A4 1 c4)] 41)) (.slice A3 3 c3) [1, 1, 0] ∧ Rd (w2.alloc (.cells #[(.slice A0 3 c0), .int .i64 3, (.slice A2 3 c2), (.slice A3 3 c3), (.slice A4 1 c4)] 41)) (.slice A4 1 c4) [1] from ⟨r0.below hbx, r2.below hbx, r3.below hbx, r4.below hbx⟩)
  clear r0 r2 r3 r4 B2 hbx HB2 HB1 HO1 HOA
  go_wp2_with fail
  generalize w2.alloc (.cells #[(.slice A0 3 c0), .int .i64 3, (.slice A2 3 c2), (.slice A3 3 c3), (.slice A4 1 c4)] 41) = w3 at *
  generalize w2.heap.size = P at *
  refine (one_calls _).mono ?_
  rintro e w4 ⟨b2, hb2, rfl, o2, B4⟩
  have HB4 := Aside0.mk (HB3.out.trans (B4.mono HB3.out.size))
  have HK4 := Aside0.mk ((B4.block _ (blk_lt HK.out)).trans HK.out)
  have HR4 := Aside0.mk (show Rd w4 (.slice A0 3 c0) [70, 70, 2] ∧ Rd w4 (.slice A2 3 c2) [1, 3, 3] ∧ Rd w4 (.slice A3 3 c3) [1, 1, 0] ∧ Rd w4 (.slice A4 1 c4) [1] from ⟨HR.out.1.below B4, HR.out.2.1.below B4, HR.out.2.2.1.below B4, HR.out.2.2.2.below B4⟩)
  have HO2 := Aside0.mk o2
  clear hb2 o2 B4 HB3 HK HR
  generalize hoa : oneA b2 = N2 at *
  have HOA := Aside0.mk hoa
  clear hoa
  go_wp2_with fail
  rw [← HOA.out]
  refine (gr1 b2 w4 HO2.out).mono ?_
  rintro e w5 ⟨g, rfl, rg, B5⟩
  have HB5 := Aside0.mk (HB4.out.trans (B5.mono HB4.out.size))
  have HK5 := Aside0.mk ((B5.block _ (blk_lt HK4.out)).trans HK4.out)
  have HR5 := Aside0.mk (show Rd w5 (.slice A0 3 c0) [70, 70, 2] ∧ Rd w5 (.slice A2 3 c2) [1, 3, 3] ∧ Rd w5 (.slice A3 3 c3) [1, 1, 0] ∧ Rd w5 (.slice A4 1 c4) [1] ∧ Rd w5 g [0, 1] from ⟨HR4.out.1.below B5, HR4.out.2.1.below B5, HR4.out.2.2.1.below B5, HR4.out.2.2.2.below B5, rg⟩)
  clear rg B5 HB4 HK4 HR4 HO2 HOA
  go_wp2_with fail
  refine (one_calls _).mono ?_
  rintro e w6 ⟨b3, hb3, rfl, o3, B6⟩
  have HB6 := Aside0.mk (HB5.out.trans (B6.mono HB5.out.size))
  have HK6 := Aside0.mk ((B6.block _ (blk_lt HK5.out)).trans HK5.out)
  have HR6 := Aside0.mk (show Rd w6 (.slice A0 3 c0) [70, 70, 2] ∧ Rd w6 (.slice A2 3 c2) [1, 3, 3] ∧ Rd w6 (.slice A3 3 c3) [1, 1, 0] ∧ Rd w6 (.slice A4 1 c4) [1] ∧ Rd w6 g [0, 1] from ⟨HR5.out.1.below B6, HR5.out.2.1.below B6, HR5.out.2.2.1.below B6, HR5.out.2.2.2.1.below B6, HR5.out.2.2.2.2.below B6⟩)
  have HO3 := Aside0.mk o3
  clear hb3 o3 B6 HB5 HK5 HR5
  generalize hoa : oneA b3 = N3 at *
  have HOA := Aside0.mk hoa
  clear hoa
  go_wp2_with fail
  rw [← HOA.out]
  refine (bl1 b3 w6 HO3.out).mono ?_
  rintro e w7 ⟨l, rfl, rl, B7⟩
  have HB7 := Aside0.mk (HB6.out.trans (B7.mono HB6.out.size))
  have HK7 := Aside0.mk ((B7.block _ (blk_lt HK6.out)).trans HK6.out)
  have HR7 := Aside0.mk (show Rd w7 (.slice A0 3 c0) [70, 70, 2] ∧ Rd w7 (.slice A2 3 c2) [1, 3, 3] ∧ Rd w7 (.slice A3 3 c3) [1, 1, 0] ∧ Rd w7 (.slice A4 1 c4) [1] ∧ Rd w7 g [0, 1] ∧ Rd w7 l [0] from ⟨HR6.out.1.below B7, HR6.out.2.1.below B7, HR6.out.2.2.1.below B7, HR6.out.2.2.2.1.below B7, HR6.out.2.2.2.2.below B7, rl⟩)
  clear rl B7 HB6 HK6 HR6 HO3 HOA
  go_wp2_with fail
  refine (one_calls _).mono ?_
  rintro e w8 ⟨b, hb, rfl, o4, B8⟩
  have hbm := bad_made w8 b o4
  have hb7 : Below w7.heap.size w7 (((w8.setCell ⟨b + 3, 5, none⟩ (.slice (some ⟨w8.heap.size + 1, 0, none⟩) 1 1)).alloc (.cells #[.string ⟨#[]⟩, .string ⟨#[]⟩, .bool false, .bool false, .bool false, .bool false, .bool false, .bool false, .bool false, .bool false, .slice none 0 0, .slice (some ⟨b + 3, 0, none⟩) 3 3, .slice (some ⟨b + 4, 0, none⟩) 3 3, .slice none 0 0, .slice none 0 0, .slice none 0 0, .slice (some ⟨b + 6, 0, none⟩) 1 1, .slice none 0 0] 36)).alloc (.cells #[.int .i64 3] 3)) := B8.trans (hbm.2.2 _ hb)
  have HAL := Aside0.mk (show Al w (((w8.setCell ⟨b + 3, 5, none⟩ (.slice (some ⟨w8.heap.size + 1, 0, none⟩) 1 1)).alloc (.cells #[.string ⟨#[]⟩, .string ⟨#[]⟩, .bool false, .bool false, .bool false, .bool false, .bool false, .bool false, .bool false, .bool false, .slice none 0 0, .slice (some ⟨b + 3, 0, none⟩) 3 3, .slice (some ⟨b + 4, 0, none⟩) 3 3, .slice none 0 0, .slice none 0 0, .slice none 0 0, .slice (some ⟨b + 6, 0, none⟩) 1 1, .slice none 0 0] 36)).alloc (.cells #[.int .i64 3] 3)) b (w8.heap.size + 1) P w8.heap.size A0 c0 A2 c2 A3 c3 A4 c4 g l from ⟨HB7.out.trans (hb7.mono HB7.out.size), (hb7.block _ (blk_lt HK7.out)).trans HK7.out, hbm.2.1, hbm.1, HR7.out.1.below hb7, HR7.out.2.1.below hb7, HR7.out.2.2.1.below hb7, HR7.out.2.2.2.1.below hb7, HR7.out.2.2.2.2.1.below hb7, HR7.out.2.2.2.2.2.below hb7⟩)
  have HNE := Aside0.mk (show w8.heap.size + 1 ≠ b from by have := blk_lt o4.t; omega)
  have HO8 := Aside0.mk o4
  clear hb B8 HB7 HK7 HR7 o4 hbm hb7
  unfold oneA adr
  have ht := HO8.out.t
  unfold taskC adr at ht
  have hcell : w8.cell? ⟨b + 3, 5, none⟩ = some (.slice (some ⟨b, 0, none⟩) 1 1) := by simp [World.cell?, ht]
  have hfr : w8.frozen? ⟨b + 3, 5, none⟩ = false := by simp [World.frozen?, ht]
  have hlt3 : b + 3 < w8.heap.size := blk_lt HO8.out.t
  clear ht HO8
  go_wp2_with fail
  clear hcell hfr hlt3
  generalize (((w8.setCell ⟨b + 3, 5, none⟩ (.slice (some ⟨w8.heap.size + 1, 0, none⟩) 1 1)).alloc (.cells #[.string ⟨#[]⟩, .string ⟨#[]⟩, .bool false, .bool false, .bool false, .bool false, .bool false, .bool false, .bool false, .bool false, .slice none 0 0, .slice (some ⟨b + 3, 0, none⟩) 3 3, .slice (some ⟨b + 4, 0, none⟩) 3 3, .slice none 0 0, .slice none 0 0, .slice none 0 0, .slice (some ⟨b + 6, 0, none⟩) 1 1, .slice none 0 0] 36)).alloc (.cells #[.int .i64 3] 3)) = wx at *
  generalize w8.heap.size + 1 = q at *
  generalize w8.heap.size = Pb at *
  refine (num_calls 0 wx).mono ?_
  rintro e w' ⟨rfl, rfl⟩
  obtain ⟨k0, k1, k2, k3, k4⟩ := HAL.out.cells
  go_wp2_with fail
  have hli := lits wx
  generalize ((((wx.alloc (.cells #[.int .i64 70, .int .i64 70, .int .i64 2] 3)).alloc (.cells #[.int .i64 1, .int .i64 3, .int .i64 3] 3)).alloc (.cells #[.int .i64 1, .int .i64 1, .int .i64 0] 3)).alloc (.cells #[.int .i64 1] 3)) = wy at *
  refine (same_c (.slice A0 3 c0) (.slice A2 3 c2) (.slice A3 3 c3) (.slice A4 1 c4) _ _ _ _ [70, 70, 2] [1, 3, 3] [1, 1, 0] [1] 3 wy (HAL.out.r.1.below hli.2.2.2.2) (HAL.out.r.2.1.below hli.2.2.2.2) (HAL.out.r.2.2.1.below hli.2.2.2.2) (HAL.out.r.2.2.2.1.below hli.2.2.2.2) hli.1 hli.2.1 hli.2.2.1 hli.2.2.2.1).mono ?_
  rintro e wz ⟨rfl, B9⟩
  have HAZ := Aside0.mk ((HAL.out.below hli.2.2.2.2).below B9)
  clear HAL hli B9 k0 k1 k2 k3 k4
  go_wp2_with fail
  refine (num_calls 0 wz).mono ?_
  rintro e w' ⟨rfl, rfl⟩
  go_wp2_with fail
  have h2 := lit2 wz 0 1
  have hb2 : Below wz.heap.size wz (wz.alloc (.cells #[.int .i64 0, .int .i64 1] 3)) := (Below.refl _ _).alloc (Nat.le_refl _) _
  refine (ints_c g _ [0, 1] _ (HAZ.out.r.2.2.2.2.1.below hb2) h2).mono ?_
  rintro e wt ⟨rfl, Bt⟩
  have HAT := Aside0.mk ((HAZ.out.below hb2).below Bt)
  clear HAZ h2 hb2 Bt
  go_wp2_with fail
  refine (num_calls 0 wt).mono ?_
  rintro e w' ⟨rfl, rfl⟩
  go_wp2_with fail
  have h1 := lit1 wt 0
  have hb1 : Below wt.heap.size wt (wt.alloc (.cells #[.int .i64 0] 3)) := (Below.refl _ _).alloc (Nat.le_refl _) _
  refine (ints_c l _ [0] _ (HAT.out.r.2.2.2.2.2.below hb1) h1).mono ?_
  rintro e wu ⟨rfl, Bu⟩
  have HAU := Aside0.mk ((HAT.out.below hb1).below Bu)
  clear HAT h1 hb1 Bu
  go_wp2_with (first | ((with_reducible refine gate_dst (N := 62) rfl ?_); (refine gate_guard (by rfl) ?_; dsimp only); refine load36 HAU.out.box rfl (.tmp 7) rfl rfl ?_))
  refine (ck1 b q HNE.out wu HAU.out.one).mono ?_
  rintro e wv ⟨rfl, Bv⟩
  have HBV := Aside0.mk (HAU.out.bel.trans (Bv.mono HAU.out.bel.size))
  clear HAU Bv
  go_wp2_with fail
  refine (num_calls 80 wv).mono ?_
  rintro e w' ⟨rfl, rfl⟩
  go_wp2_with fail
  go_ret
  exact ⟨rfl, HBV.out⟩
end Go.Proofs.Ytflkbheginhfiaa.XA
