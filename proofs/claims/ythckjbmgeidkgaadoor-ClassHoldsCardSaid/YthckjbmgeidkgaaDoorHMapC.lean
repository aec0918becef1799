/- a map of whole numbers to counts. -/
import Derived.Test.YthckjbmgeidkgaaDoorHMapS
import Derived.Laws.IdiomRangeMap
namespace Go.Proofs.YthckjbmgeidkgaaDoor.XA
set_option linter.unusedVariables false
set_option linter.unusedSimpArgs false
open Go.RowKit Go.WideMaps Go.Maps Go.ChangeMaps Go.MapKept Go.Proofs.YthckjbmgeidkgaaDoorW.PrintWords
theorem law3 : Keyed Tryd.prog 3 := int_keyed Tryd.underlying3
theorem key_int (n : Int) (h : (Lit.int .i64 n).wf = true) : keyOf Tryd.prog 3 (.int .i64 n) = some (.int .i64 n) := keyOf_int_mk Tryd.underlying3 h
/-- the entries: each key once, with its count -/
structure EsC (es : List MapEntry) (f : Int → Int) : Prop where
  all : ∀ e ∈ es, ∃ p, (Lit.int .i64 p).wf = true ∧ e.key = .int .i64 p ∧ e.val = .int .i64 (f p)
  has : ∀ p, f p ≠ 0 → ∃ e ∈ es, e.key = .int .i64 p
  nd : (es.map (·.key)).Nodup
def MapC (w : World) (b : Nat) (f : Int → Int) : Prop := ∃ (es : List MapEntry) (n : Nat), w.heap[b]? = some (.map es.toArray n) ∧ EsC es f
theorem mapC_lt {w : World} {b : Nat} {f : Int → Int} (h : MapC w b f) : b < w.heap.size := by
  obtain ⟨es, n, h, _⟩ := h
  rcases Nat.lt_or_ge b w.heap.size with hb | hb
  · exact hb
  · rw [Array.getElem?_eq_none hb] at h
    cases h
theorem MapC.below {w w1 : World} {b : Nat} {f : Int → Int} (h : MapC w b f) (hB : Below w.heap.size w w1) : MapC w1 b f := by
  have hl := mapC_lt h
  obtain ⟨es, n, h, hE⟩ := h
  exact ⟨es, n, (hB.block b hl).trans h, hE⟩
theorem mapC_new (w : World) : MapC (w.alloc (.map #[] 0)) w.heap.size (fun _ => 0) := ⟨[], 0, heap_alloc_new w _, ⟨fun e h => by simp at h, fun p h => absurd rfl h, by simp⟩⟩
theorem esC_key {es : List MapEntry} {f : Int → Int} (h : EsC es f) : ∀ e ∈ es, ∃ q, keyOf Tryd.prog 3 e.key = some q := by
  intro e he
  obtain ⟨p, hp, hk, _⟩ := h.all e he
  exact ⟨_, by rw [hk]; exact key_int p hp⟩
theorem mapC_get {w : World} {b : Nat} {f : Int → Int} (h : MapC w b f) (p : Int) (hp : (Lit.int .i64 p).wf = true) :
    (Instr.lookup 86 (.map (some b)) (.int .i64 p) false).run Tryd.prog w = .ok (.int .i64 (f p)) w := by
  obtain ⟨es, n, hb, hE⟩ := h
  have hkey := key_int p hp
  have hz : (zeroValue 3).run Tryd.prog w = .ok (.int .i64 0) w := by kernel_rfl
  rcases law3.find w hkey es (esC_key hE) with ⟨h1, h2⟩ | ⟨j, e0, h1, h2, h3⟩
  · have hn : f p = 0 := by
      rcases Classical.em (f p = 0) with h | h
      · exact h
      · obtain ⟨e, he, hk⟩ := hE.has p h
        exact absurd hk (h2 e he)
    rw [hn]
    simp [Instr.lookup, run_underlying Tryd.underlying86, MapKept.run_getObj_map hb, law3.check w _ hkey, h1, hz, Result.andThen]
  · obtain ⟨q, hq, hk, hv⟩ := hE.all e0 (List.mem_of_getElem? h2)
    rw [h3] at hk
    have hk := (Value.int.inj hk).2
    subst hk
    obtain ⟨k0, v0, b0⟩ := e0
    simp only at h3 hv h1
    subst h3 hv
    clear h2 hE
    simp [Instr.lookup, run_underlying Tryd.underlying86, MapKept.run_getObj_map hb, law3.check w _ hkey, h1, hz, Result.andThen]
theorem mapC_put {w : World} {b : Nat} {f : Int → Int} (h : MapC w b f) (p v : Int) (hp : (Lit.int .i64 p).wf = true) :
    ∃ w', (Instr.mapUpdate 86 (.map (some b)) (.int .i64 p) (.int .i64 v)).run Tryd.prog w = .ok () w' ∧ MapC w' b (fun q => if q = p then v else f q) ∧ w.grownBy w' (some b) := by
  obtain ⟨es, n, hb, hE⟩ := h
  have hkey := key_int p hp
  rcases law3.find w hkey es (esC_key hE) with ⟨h1, h2⟩ | ⟨j, e0, h1, h2, h3⟩
  · refine ⟨setBlock w b (.map (es.toArray.push ⟨.int .i64 p, .int .i64 v, n⟩) (n + 1)), ?_, ⟨es ++ [⟨.int .i64 p, .int .i64 v, n⟩], n + 1, ?_, ?_⟩, ⟨rfl, rfl, rfl, by simp [setBlock], fun i _ hi => heap_setBlock_other hb _ (fun e => hi (by rw [e]))⟩⟩
    · simp [Instr.mapUpdate, run_underlying Tryd.underlying86, MapKept.run_getObj_map hb, law3.check w false hkey, law3.stays w hkey, h1, MapKept.run_setObj_map _ hb, Result.andThen, setBlock]
    · have e1 : (es ++ [(⟨.int .i64 p, .int .i64 v, n⟩ : MapEntry)]).toArray = es.toArray.push ⟨.int .i64 p, .int .i64 v, n⟩ := by simp
      rw [e1]
      exact heap_setBlock_same hb _
    · refine ⟨fun e he => ?_, fun q hq => ?_, ?_⟩
      · rcases List.mem_append.mp he with he | he
        · obtain ⟨q, hq, hk, hv⟩ := hE.all e he
          have hne : q ≠ p := fun e2 => h2 e he (by rw [hk, e2])
          exact ⟨q, hq, hk, by rw [hv]; simp [hne]⟩
        · rw [List.mem_singleton.mp he]
          exact ⟨p, hp, rfl, by simp⟩
      · by_cases hqp : q = p
        · exact ⟨⟨.int .i64 p, .int .i64 v, n⟩, by simp, by rw [hqp]⟩
        · obtain ⟨e, he, hk⟩ := hE.has q (by simpa [hqp] using hq)
          exact ⟨e, List.mem_append_left _ he, hk⟩
      · rw [List.map_append, List.nodup_append]
        refine ⟨hE.nd, by simp, fun a ha b hb2 => ?_⟩
        obtain ⟨e, he, rfl⟩ := List.mem_map.mp ha
        simp only [List.map_cons, List.map_nil, List.mem_singleton] at hb2
        rw [hb2]
        exact h2 e he
  · have hj : j < es.length := (List.getElem?_eq_some_iff.mp h2).1
    have he : es[j]? = some e0 := h2
    refine ⟨setBlock w b (.map (es.toArray.modify j fun e => { e with key := .int .i64 p, val := .int .i64 v }) n), ?_, ⟨es.modify j fun e => { e with key := .int .i64 p, val := .int .i64 v }, n, ?_, ?_⟩, ⟨rfl, rfl, rfl, by simp [setBlock], fun i _ hi => heap_setBlock_other hb _ (fun e => hi (by rw [e]))⟩⟩
    · have h4 : ((es.toArray[j]?).map (·.key)).getD (.int .i64 p) = .int .i64 p := by simp [h2, h3]
      simp [Instr.mapUpdate, run_underlying Tryd.underlying86, MapKept.run_getObj_map hb, law3.check w false hkey, law3.stays w hkey, h1, h2, h3, MapKept.run_setObj_map _ hb, Result.andThen, setBlock]
    · have := heap_setBlock_same hb (.map (es.toArray.modify j fun e => { e with key := .int .i64 p, val := .int .i64 v }) n)
      rw [this]
      simp
    · have hkeys : (es.modify j fun e => { e with key := .int .i64 p, val := .int .i64 v }).map (·.key) = es.map (·.key) := by
        apply List.ext_getElem?
        intro i
        rw [List.getElem?_map, List.getElem?_map, List.getElem?_modify]
        by_cases hij : j = i
        · subst hij
          simp [h2, h3]
        · simp [hij]
      refine ⟨fun e hm => ?_, fun q hq => ?_, by rw [hkeys]; exact hE.nd⟩
      · obtain ⟨i, hi, rfl⟩ := List.getElem_of_mem hm
        have hi2 : i < es.length := by simpa using hi
        rw [List.getElem_modify]
        by_cases hij : j = i
        · rw [if_pos hij]
          exact ⟨p, hp, rfl, by simp⟩
        · rw [if_neg hij]
          obtain ⟨q, hq, hk, hv⟩ := hE.all es[i] (List.getElem_mem hi2)
          have hne : q ≠ p := by
            intro e2
            have hnd := List.pairwise_iff_getElem.mp hE.nd
            have hej : es[j] = e0 := (List.getElem?_eq_some_iff.mp h2).2
            rcases Nat.lt_or_gt_of_ne hij with h | h
            · exact hnd j i (by simpa using hj) (by simpa using hi2) h (by
                simp only [List.getElem_map]
                rw [hk, e2, hej, h3])
            · exact hnd i j (by simpa using hi2) (by simpa using hj) h (by
                simp only [List.getElem_map]
                rw [hk, e2, hej, h3])
          exact ⟨q, hq, hk, by rw [hv]; simp [hne]⟩
      · have hex : ∃ e ∈ es, e.key = .int .i64 q := by
          by_cases hqp : q = p
          · exact ⟨e0, List.mem_of_getElem? h2, by rw [h3, hqp]⟩
          · exact hE.has q (by simpa [hqp] using hq)
        obtain ⟨e, he, hk⟩ := hex
        have : Value.int .i64 q ∈ (es.modify j fun e => { e with key := .int .i64 p, val := .int .i64 v }).map (·.key) := by
          rw [hkeys]
          exact List.mem_map.mpr ⟨e, he, hk⟩
        obtain ⟨e2, he2, hk2⟩ := List.mem_map.mp this
        exact ⟨e2, he2, hk2⟩
end Go.Proofs.YthckjbmgeidkgaaDoor.XA
