/- a map of strings to true whose entries are told one by one: the strings of a list; put, asked. -/
import Derived.Test.YthckjbmgeidkgaaDoorHKinds
import Derived.Laws.IdiomRangeMap
namespace Go.Proofs.YthckjbmgeidkgaaDoor.XA
set_option linter.unusedVariables false
set_option linter.unusedSimpArgs false
open Go.RowKit Go.WideMaps Go.Maps Go.ChangeMaps Go.MapKept Go.Proofs.YthckjbmgeidkgaaDoorW.PrintWords
theorem law9 : Keyed Tryd.prog 9 := string_keyed Tryd.underlying9
theorem key_str (s : ByteArray) (h : s.size ≤ 63) : keyOf Tryd.prog 9 (.string s) = some (.string s.data.toList) := by
  rw [keyOf_string Tryd.underlying9]
  have hm : s.size ≤ maxLen := by unfold maxLen; omega
  simp [mapKey, Tryd.underlying9, hm]
def entS (l : List ByteArray) (i : Nat) : MapEntry := ⟨.string (l.getD i ⟨#[]⟩), .bool true, i⟩
def entsS (l : List ByteArray) : List MapEntry := (List.range l.length).map (entS l)
def MapS (w : World) (b : Nat) (l : List ByteArray) : Prop := w.heap[b]? = some (.map (entsS l).toArray l.length) ∧ ∀ s ∈ l, s.size ≤ 63
theorem entsS_snoc (l : List ByteArray) (a : ByteArray) : entsS (l ++ [a]) = entsS l ++ [⟨.string a, .bool true, l.length⟩] := by
  unfold entsS
  rw [List.length_append, List.length_singleton, List.range_succ, List.map_append]
  congr 1
  · apply List.map_congr_left
    intro i hi
    rw [List.mem_range] at hi
    unfold entS
    rw [List.getD_eq_getElem?_getD, List.getElem?_append_left hi, ← List.getD_eq_getElem?_getD]
  · simp [entS, List.getD_eq_getElem?_getD]
theorem mem_entsS {l : List ByteArray} {e : MapEntry} (h : e ∈ entsS l) : ∃ i, i < l.length ∧ e = entS l i := by
  obtain ⟨i, hi, rfl⟩ := List.mem_map.mp h
  exact ⟨i, by simpa using hi, rfl⟩
theorem getS {l : List ByteArray} {i : Nat} (h : i < l.length) : l.getD i ⟨#[]⟩ ∈ l := by
  rw [List.getD_eq_getElem?_getD, List.getElem?_eq_getElem h]
  exact List.getElem_mem h
theorem entsS_key {l : List ByteArray} (hl : ∀ s ∈ l, s.size ≤ 63) : ∀ e ∈ entsS l, ∃ q, keyOf Tryd.prog 9 e.key = some q := by
  intro e he
  obtain ⟨i, hi, rfl⟩ := mem_entsS he
  exact ⟨_, key_str _ (hl _ (getS hi))⟩
theorem mapS_lt {w : World} {b : Nat} {l : List ByteArray} (h : MapS w b l) : b < w.heap.size := by
  rcases Nat.lt_or_ge b w.heap.size with hb | hb
  · exact hb
  · have := h.1
    rw [Array.getElem?_eq_none hb] at this
    cases this
theorem MapS.below {w w1 : World} {b : Nat} {l : List ByteArray} (h : MapS w b l) (hB : Below w.heap.size w w1) : MapS w1 b l := ⟨(hB.block b (mapS_lt h)).trans h.1, h.2⟩
theorem mapS_put {w : World} {b : Nat} {l : List ByteArray} (h : MapS w b l) (s : ByteArray) (hs : s.size ≤ 63) (hn : ¬ s ∈ l) :
    ∃ w', (Instr.mapUpdate 104 (.map (some b)) (.string s) (.bool true)).run Tryd.prog w = .ok () w' ∧ MapS w' b (l ++ [s]) ∧ w.grownBy w' (some b) := by
  have hkey := key_str s hs
  refine ⟨setBlock w b (.map (entsS (l ++ [s])).toArray (l.length + 1)), ?_, ⟨?_, fun x hx => ?_⟩, ⟨rfl, rfl, rfl, by simp [setBlock], fun i _ hi => heap_setBlock_other h.1 _ (fun e => hi (by rw [e]))⟩⟩
  · have hb := h.1
    rcases law9.find w hkey (entsS l) (entsS_key h.2) with ⟨h1, h2⟩ | ⟨j, e0, h1, h2, h3⟩
    · have hk1 : (Instr.findKey 9 (.string s) (entsS l).toArray.toList).run Tryd.prog w = .ok none w := h1
      have he : (entsS (l ++ [s])).toArray = (entsS l).toArray.push ⟨.string s, .bool true, l.length⟩ := by rw [entsS_snoc]; simp
      rw [he]
      simp [Instr.mapUpdate, run_underlying Tryd.underlying104, MapKept.run_getObj_map hb, law9.check w false hkey, law9.stays w hkey, h1, MapKept.run_setObj_map _ hb, Result.andThen, setBlock]
    · exfalso
      obtain ⟨i, hi, rfl⟩ := mem_entsS (List.mem_of_getElem? h2)
      unfold entS at h3
      injection h3 with h3
      exact hn (h3 ▸ getS hi)
  · rw [List.length_append, List.length_singleton]
    exact heap_setBlock_same h.1 _
  · rcases List.mem_append.mp hx with hx | hx
    · exact h.2 x hx
    · rw [List.mem_singleton.mp hx]
      exact hs
/-- is a string among others? -/
def memS (l : List ByteArray) (s : ByteArray) : Bool := l.any fun x => x.data.toList == s.data.toList
theorem memS_iff {l : List ByteArray} {s : ByteArray} : memS l s = true ↔ s ∈ l := by
  unfold memS
  rw [List.any_eq_true]
  constructor
  · rintro ⟨x, hx, he⟩
    have he := eq_of_beq he
    have : x = s := by
      cases x with
      | mk a =>
        cases s with
        | mk b =>
          have : a = b := Array.toList_inj.mp he
          rw [this]
    rw [← this]
    exact hx
  · exact fun h => ⟨s, h, by simp⟩
theorem mapS_get {w : World} {b : Nat} {l : List ByteArray} (h : MapS w b l) (s : ByteArray) (hs : s.size ≤ 63) :
    (Instr.lookup 104 (.map (some b)) (.string s) false).run Tryd.prog w = .ok (.bool (memS l s)) w := by
  have hb := h.1
  have hkey := key_str s hs
  have hz : (zeroValue 4).run Tryd.prog w = .ok (.bool false) w := by kernel_rfl
  rcases law9.find w hkey (entsS l) (entsS_key h.2) with ⟨h1, h2⟩ | ⟨j, e0, h1, h2, h3⟩
  · have hn : memS l s = false := by
      rw [Bool.eq_false_iff]
      intro hm
      obtain ⟨i, hi, e⟩ := List.getElem_of_mem (memS_iff.mp hm)
      refine h2 (entS l i) (List.mem_map.mpr ⟨i, by simpa using hi, rfl⟩) ?_
      unfold entS
      rw [List.getD_eq_getElem?_getD, List.getElem?_eq_getElem hi]
      exact congrArg Value.string e
    rw [hn]
    simp [Instr.lookup, run_underlying Tryd.underlying104, MapKept.run_getObj_map hb, law9.check w _ hkey, h1, hz, Result.andThen]
  · obtain ⟨q, hq, rfl⟩ := mem_entsS (List.mem_of_getElem? h2)
    have hm : memS l s = true := memS_iff.mpr (by
      unfold entS at h3
      injection h3 with h3
      exact h3 ▸ getS hq)
    rw [hm]
    simp [Instr.lookup, run_underlying Tryd.underlying104, MapKept.run_getObj_map hb, law9.check w _ hkey, h1, hz, Result.andThen, entS]
end Go.Proofs.YthckjbmgeidkgaaDoor.XA
