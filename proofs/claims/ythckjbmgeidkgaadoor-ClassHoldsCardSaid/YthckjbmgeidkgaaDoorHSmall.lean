/- the law's example configuration: what it answers. -/
import Derived.Test.YthckjbmgeidkgaaDoorHClass
namespace Go.Proofs.YthckjbmgeidkgaaDoor.XA
set_option linter.unusedVariables false
set_option linter.unusedSimpArgs false
open Go.RowKit Go.WideMaps Go.Maps Go.Proofs.YthckjbmgeidkgaaDoorW.PrintWords Go.Proofs.YthckjbmgeidkgaaDoorW.PrintLast Go.Proofs.YthckjbmgeidkgaaDoorW.PrintMore
def tk (b : UInt8) : S49 := ⟨⟨#[b]⟩, 1, false, 1, [], [], [], []⟩
def smC (ts : List S49) : S33 := ⟨⟨#[99]⟩, ⟨⟨#[111]⟩, false, false, false, false, false, false, false, false⟩, [⟨#[109]⟩], ts, [], [], [], [], [], []⟩
theorem ver1 : verV (smC [tk 116]) = okVer := by decide +kernel
theorem ver2 : verV (smC [tk 116, tk 116]) = (72, ⟨#[84, 65, 83, 75]⟩, 1) := by decide +kernel
theorem ver3 : verV (smC [tk 116, tk 117]) = okVer := by decide +kernel
theorem cls1 : classV (smC [tk 116]) = (1, 0) := by decide +kernel
theorem cls3 : classV (smC [tk 116, tk 117]) = (2, 0) := by decide +kernel
theorem ext3 : extV (smC [tk 116, tk 117]) 0 = false := by decide +kernel
def smV (bm bt k : Nat) : CV := ⟨some ⟨bm, 0, none⟩, some ⟨bt, 0, none⟩, none, none, none, none, none, none, 1, k, 0, 0, 0, 0, 0, 0⟩
def tkCells (b : UInt8) : List Value := [.string ⟨#[b]⟩, .int .i64 1, .bool false, .int .i64 1, .slice none 0 0, .slice none 0 0, .slice none 0 0, .slice none 0 0]
def smA (bm bt n k : Nat) : Array Value := #[.string ⟨#[99]⟩, .string ⟨#[111]⟩, .bool false, .bool false, .bool false, .bool false, .bool false, .bool false, .bool false, .bool false, .slice (some ⟨bm, 0, none⟩) 1 1, .slice (some ⟨bt, 0, none⟩) n k, .slice none 0 0, .slice none 0 0, .slice none 0 0, .slice none 0 0, .slice none 0 0, .slice none 0 0]
theorem sm_arr (bm bt k : Nat) (ts : List S49) : arr (smV bm bt k) (smC ts) = smA bm bt ts.length k := rfl
theorem tab_of2 {α : Type} {d : Kd α} {w : World} {B e : Nat} {cur : Array Value} {cs : List Value} {xs : List α} (h : w.heap[B]? = some (.cells cur e (0, 0))) (hc : cur.toList.take cs.length = cs) (hn : xs.length ≤ 9223372036854775807)
    (hr : ∀ j p, xs[j]? = some p → ∃ c, c.length = d.sz ∧ d.K w p c ∧ ∀ i u, c[i]? = some u → cs[j * d.sz + i]? = some u) : d.C w (some ⟨B, 0, none⟩) xs.length xs :=
  ⟨rfl, hn, fun _ => ⟨_, rfl, fun j p hj => by
    obtain ⟨c, h1, h2, h3⟩ := hr j p hj
    refine ⟨c, h1, h2, fun i u hu => cell_of h ?_⟩
    have h4 := h3 i u hu
    rw [← hc, List.getElem?_take] at h4
    split at h4
    · simpa using h4
    · cases h4⟩⟩
theorem nilC {α : Type} (d : Kd α) (w : World) : d.C w none 0 [] := ⟨rfl, by decide, fun h => by omega⟩
theorem tkK (w : World) (b : UInt8) : k49.K w (tk b) (tkCells b) := k49_mk w (tk b) (Nat.le_refl 0) (nilC _ w) (Nat.le_refl 0) (nilC _ w) (Nat.le_refl 0) (nilC _ w) (Nat.le_refl 0) (nilC _ w)
structure SmAt (w : World) (bm bt : Nat) (l : List UInt8) (k : Nat) : Prop where
  m : w.heap[bm]? = some (.cells #[.string ⟨#[109]⟩] 9 (0, 0))
  t : ∃ cur, w.heap[bt]? = some (.cells cur 49 (0, 0)) ∧ cur.size = k * 8 ∧ cur.toList.take (l.length * 8) = l.flatMap tkCells
  le : l.length ≤ k
theorem SmAt.below {w w1 : World} {bm bt : Nat} {l : List UInt8} {k : Nat} (h : SmAt w bm bt l k) (hB : Below w.heap.size w w1) : SmAt w1 bm bt l k := by
  obtain ⟨hm, ⟨cur, ht, h1, h2⟩, hl⟩ := h
  exact ⟨(hB.block _ (blk_lt hm)).trans hm, ⟨cur, (hB.block _ (blk_lt ht)).trans ht, h1, h2⟩, hl⟩
theorem flat_at : ∀ (l : List UInt8) (j : Nat) (b : UInt8) (i : Nat) (u : Value), l[j]? = some b → (tkCells b)[i]? = some u → (l.flatMap tkCells)[j * 8 + i]? = some u
  | [], j, b, i, u, h, _ => by simp at h
  | a :: r, 0, b, i, u, h, hu => by
    injection h with h
    subst h
    rw [List.flatMap_cons, Nat.zero_mul, Nat.zero_add, List.getElem?_append_left (List.getElem?_eq_some_iff.mp hu).1]
    exact hu
  | a :: r, j + 1, b, i, u, h, hu => by
    have hl : (tkCells a).length = 8 := rfl
    rw [List.flatMap_cons, List.getElem?_append_right (by rw [hl]; omega), hl, show (j + 1) * 8 + i - 8 = j * 8 + i by omega]
    exact flat_at r j b i u h hu
theorem flat_len (l : List UInt8) : (l.flatMap tkCells).length = l.length * 8 := by
  induction l with
  | nil => rfl
  | cons a r ih =>
    rw [List.flatMap_cons, List.length_append, ih, List.length_cons, show (tkCells a).length = 8 from rfl]
    omega
theorem sm_cf {w : World} {bm bt : Nat} {l : List UInt8} {k : Nat} (h : SmAt w bm bt l k) (hl : l.length ≤ 2) : Cf w (smV bm bt k) (smC (l.map tk)) := by
  obtain ⟨hm, ⟨cur, ht, h1, h2⟩, hle⟩ := h
  have hM : Kd.string.C w (some ⟨bm, 0, none⟩) 1 [⟨#[109]⟩] := by
    refine tab_of2 (d := Kd.string) (cs := [.string ⟨#[109]⟩]) hm rfl (by decide) (fun j p hj => ?_)
    rcases j with _ | j
    · injection hj with hj
      subst hj
      exact ⟨_, rfl, rfl, fun i u hu => by rcases i with _ | i <;> first | exact hu | simp at hu⟩
    · simp at hj
  have hT : k49.C w (some ⟨bt, 0, none⟩) (l.map tk).length (l.map tk) := by
    refine tab_of2 (d := k49) (cs := l.flatMap tkCells) ht (by rw [flat_len]; exact h2) (by rw [List.length_map]; omega) (fun j p hj => ?_)
    rw [List.getElem?_map] at hj
    rcases hb : l[j]? with _ | b
    · rw [hb] at hj; cases hj
    · rw [hb] at hj
      injection hj with hj
      subst hj
      exact ⟨tkCells b, rfl, tkK w b, fun i u hu => flat_at l j b i u hb hu⟩
  have hll : (smC (l.map tk)).f3.length ≤ 2 := by show (l.map tk).length ≤ 2; rw [List.length_map]; exact hl
  exact ⟨⟨by show 1 ≤ 8796093022208; decide, by omega, Nat.zero_le _, Nat.zero_le _, Nat.zero_le _, Nat.zero_le _, Nat.zero_le _, Nat.zero_le _, fun x hx => by cases hx⟩, Nat.le_refl 1, hM, by show (l.map tk).length ≤ k; rw [List.length_map]; exact hle, hT, Nat.le_refl 0, nilC _ w, Nat.le_refl 0, nilC _ w, Nat.le_refl 0, nilC _ w, Nat.le_refl 0, nilC _ w, Nat.le_refl 0, nilC _ w, Nat.le_refl 0, nilC _ w⟩
set_option maxRecDepth 1000000 in
set_option maxHeartbeats 4000000 in
theorem small_calls (w : World) : Calls Tryd.prog 22 #[] w fun e w' => e = .returned (.agg (smA (w.heap.size + 1) (w.heap.size + 1 + 1) 1 1)) ∧ SmAt w' (w.heap.size + 1) (w.heap.size + 1 + 1) [116] 1 ∧ Below w.heap.size w w' := by
  go_enter Tryd.func22, Tryd.ntmps22
  go_wp2_with fail
  have h2 := al_new ((w.alloc (.cells (smA (w.heap.size + 1) (w.heap.size + 1 + 1) 1 1) 33)).alloc (.cells #[.string ⟨#[109]⟩] 9)) (.cells (tkCells 116).toArray 49) (w.heap.size + 1 + 1) (by simp only [World.size_alloc])
  have h1 : (((w.alloc (.cells (smA (w.heap.size + 1) (w.heap.size + 1 + 1) 1 1) 33)).alloc (.cells #[.string ⟨#[109]⟩] 9)).alloc (.cells (tkCells 116).toArray 49)).heap[w.heap.size + 1]? = some (.cells #[.string ⟨#[109]⟩] 9 (0, 0)) := by
    rw [heap_alloc_old _ _ (by simp only [World.size_alloc]; omega)]
    exact al_new _ _ _ (by simp only [World.size_alloc])
  have h0 : (((w.alloc (.cells (smA (w.heap.size + 1) (w.heap.size + 1 + 1) 1 1) 33)).alloc (.cells #[.string ⟨#[109]⟩] 9)).alloc (.cells (tkCells 116).toArray 49)).heap[w.heap.size]? = some (.cells (smA (w.heap.size + 1) (w.heap.size + 1 + 1) 1 1) 33 (0, 0)) := by
    rw [heap_alloc_old _ _ (by simp only [World.size_alloc]; omega)]
    rw [heap_alloc_old _ _ (by simp only [World.size_alloc]; omega)]
    exact heap_alloc_new _ _
  have hB : Below w.heap.size w (((w.alloc (.cells (smA (w.heap.size + 1) (w.heap.size + 1 + 1) 1 1) 33)).alloc (.cells #[.string ⟨#[109]⟩] 9)).alloc (.cells (tkCells 116).toArray 49)) := (below_a2 w _ _).alloc (by simp only [World.size_alloc]; omega) _
  refine bodyPost_ret (results_cell_row rfl _ _ w.heap.size 33 (smA (w.heap.size + 1) (w.heap.size + 1 + 1) 1 1) (0, 0) _ rfl h0 Tryd.underlying33 rfl (by kernel_rfl)) rfl ?_
  exact ⟨rfl, ⟨h1, ⟨_, h2, rfl, rfl⟩, Nat.le_refl 1⟩, hB⟩
end Go.Proofs.YthckjbmgeidkgaaDoor.XA
