/- what a caller hands in, read into plain lists: whole numbers, strings, structs and slices of them. -/
import Derived.Test.YthckjbmgeidkgaaDoorRows
import Derived.Test.YthckjbmgeidkgaaDoorWWords
import Derived.ChangeArms
import Derived.DataReads
namespace Go.Proofs.YthckjbmgeidkgaaDoor.Open
set_option linter.unusedVariables false
set_option linter.unusedSimpArgs false
open Go.RowKit Go.Proofs.YthckjbmgeidkgaaDoorW.PrintWords

/-- data of type t is read by d: what is read is ok; if no weight is too great, sized; and its bulk is below the data's. -/
structure Opn {α : Type} (P : Program) (t : TypeId) (d : Kd α) (ok sz : α → Prop) (wt : α → Nat) : Prop where
  cells : P.cellsOf t = d.sz
  pos : ∀ a, 1 ≤ wt a
  read : ∀ {H : Type} {enc : TypeId × Value → H} {w : World} {base : Nat} {spare : Nat → Bool} {held : Bool} {fuel : Nat} {cs : List Value} {x : DataW H × List MemPlace}, DataW.trod enc P w base spare held fuel t cs = some x →
    ∃ a, d.K w a cs ∧ ok a ∧ ((∀ n ∈ x.1.weights P t, n ≤ reachBytes) → sz a) ∧ wt a ≤ Rows.uptoBulk x.1
theorem Opn.int {P : Program} {t : TypeId} {k : IntKind} (h : P.underlying t = some (.int k)) (hc : P.cellsOf t = 1) : Opn P t (Kd.int k) (fun n => (Lit.int k n).wf = true) (fun _ => True) (fun _ => 1) where
  cells := hc
  pos := fun _ => Nat.le_refl _
  read := by
    intro H enc w base spare held fuel cs x hx
    obtain ⟨n, rfl, rfl, hw⟩ := DataW.trod_int h hx
    exact ⟨n, rfl, hw, fun _ => trivial, by simp [Rows.uptoBulk]⟩
theorem Opn.bool {P : Program} {t : TypeId} (h : P.underlying t = some .bool) (hc : P.cellsOf t = 1) : Opn P t Kd.bool (fun _ => True) (fun _ => True) (fun _ => 1) where
  cells := hc
  pos := fun _ => Nat.le_refl _
  read := by
    intro H enc w base spare held fuel cs x hx
    obtain ⟨n, rfl, rfl⟩ := DataW.trod_bool h hx
    exact ⟨n, rfl, trivial, fun _ => trivial, by simp [Rows.uptoBulk]⟩
theorem Opn.string {P : Program} {t : TypeId} (h : P.underlying t = some .string) (hc : P.cellsOf t = 1) : Opn P t Kd.string (fun _ => True) (fun s => s.size ≤ reachBytes) (fun s => s.size + 1) where
  cells := hc
  pos := fun _ => Nat.le_add_left _ _
  read := by
    intro H enc w base spare held fuel cs x hx
    obtain ⟨s, rfl, rfl, hs⟩ := DataW.trod_string h hx
    refine ⟨s, rfl, trivial, fun hn => ?_, ?_⟩
    · have := hn s.data.toList.length (by simp [DataW.weights])
      simpa using this
    · have e : s.data.size = s.size := rfl
      simp only [Rows.uptoBulk, Array.length_toList]
      omega

theorem choose {α : Type} {Q : Nat → α → Prop} : ∀ n, (∀ i, i < n → ∃ a, Q i a) → ∃ xs : List α, xs.length = n ∧ ∀ i a, xs[i]? = some a → Q i a
  | 0, _ => ⟨[], rfl, by simp⟩
  | n + 1, h => by
    obtain ⟨xs, hl, hq⟩ := choose n (fun i hi => h i (by omega))
    obtain ⟨a, ha⟩ := h n (by omega)
    refine ⟨xs ++ [a], by simp [hl], fun i b hb => ?_⟩
    rcases Nat.lt_or_ge i n with hi | hi
    · rw [List.getElem?_append_left (by omega)] at hb
      exact hq i b hb
    · rw [List.getElem?_append_right (by omega), hl] at hb
      rcases Nat.eq_or_lt_of_le hi with rfl | hi
      · simp at hb
        exact hb ▸ ha
      · rw [List.getElem?_eq_none (by simp; omega)] at hb
        cases hb
theorem bulk_sum {α H : Type} {wt : α → Nat} : ∀ (xs : List α) (es : List (DataW H × List MemPlace)), xs.length = es.length → (∀ (i : Nat) (a : α) (e : DataW H × List MemPlace), xs[i]? = some a → es[i]? = some e → wt a ≤ Rows.uptoBulk e.1) → (xs.map wt).sum ≤ Rows.uptoBulkAll (es.map (·.1))
  | [], es, _, _ => Nat.zero_le _
  | a :: xs, [], h, _ => by simp at h
  | a :: xs, e :: es, h, hq => by
    have h1 := bulk_sum xs es (by simpa using h) (fun i b f hb hf => hq (i + 1) b f (by simpa using hb) (by simpa using hf))
    have h2 := hq 0 a e rfl rfl
    simp only [List.map_cons, List.sum_cons, Rows.uptoBulkAll]
    omega
theorem weights_mem {H : Type} {P : Program} {e : TypeId} : ∀ (es : List (DataW H)) (i : Nat) (d : DataW H), es[i]? = some d → ∀ n ∈ d.weights P e, n ∈ DataW.weightsAll P e es
  | [], i, d, h => by simp at h
  | c :: es, 0, d, h => by
    simp at h
    subst h
    intro n hn
    simp only [DataW.weightsAll, List.mem_append]
    exact .inl hn
  | c :: es, i + 1, d, h => by
    intro n hn
    simp only [DataW.weightsAll, List.mem_append]
    exact .inr (weights_mem es i d (by simpa using h) n hn)

theorem Opn.slice {α : Type} {P : Program} {t e : TypeId} {d : Kd α} {ok sz : α → Prop} {wt : α → Nat} (E : Nat) (h : Opn P e d ok sz wt) (ht : P.underlying t = some (.slice e)) (hc : P.cellsOf t = 1) :
    Opn P t (Kd.slice E d) (fun xs => ∀ x ∈ xs, ok x) (fun xs => xs.length * P.bytesOf e ≤ reachBytes ∧ ∀ x ∈ xs, sz x) (fun xs => (xs.map wt).sum + 1) where
  cells := hc
  pos := fun _ => Nat.le_add_left _ _
  read := by
    intro H enc w base spare held fuel cs x hx
    rcases DataW.trod_slice ht hx with ⟨rfl, rfl⟩ | ⟨a, len, cap, elems, rest, n, rfl, rfl, rfl, hb, hl, hcap, hel, hat, _, _⟩
    · exact ⟨[], ⟨none, 0, rfl, Nat.le_refl _, Kd.C_nil d w⟩, by simp, fun _ => by simp, by simp [Rows.uptoBulk]⟩
    · have hex : ∀ i, i < len → ∃ p : α, ∃ c y, w.cells? base (a.add (i * P.cellsOf e)) (P.cellsOf e) = some c ∧ elems[i]? = some y ∧ d.K w p c ∧ ok p ∧ ((∀ n ∈ y.1.weights P e, n ≤ reachBytes) → sz p) ∧ wt p ≤ Rows.uptoBulk y.1 := by
        intro i hi
        have h1 := hat i hi
        rw [List.getElem?_eq_getElem (by omega)] at h1
        rw [Option.bind_eq_some_iff] at h1
        obtain ⟨c, hc1, hc2⟩ := h1
        obtain ⟨p, hp1, hp2, hp3, hp4⟩ := h.read hc2
        exact ⟨p, c, elems[i], hc1, List.getElem?_eq_getElem (by omega), hp1, hp2, hp3, hp4⟩
      obtain ⟨xs, hxl, hxq⟩ := choose len hex
      have hcells := h.cells
      refine ⟨xs, ⟨some a, cap, by rw [hxl], by omega, ⟨rfl, by rw [hxl]; simp only [maxLen] at hcap; omega, fun hp => ⟨a, rfl, fun j p hj => ?_⟩⟩⟩, fun p hp => ?_, fun hw => ⟨?_, fun p hp => ?_⟩, ?_⟩
      · obtain ⟨c, y, hc1, hy, hk, _⟩ := hxq j p hj
        obtain ⟨_, hcl, hcc⟩ := World.cells?_some hc1
        refine ⟨c, by rw [hcl, hcells], hk, fun i u hu => ?_⟩
        have hi : i < P.cellsOf e := by rw [← hcl]; exact (List.getElem?_eq_some_iff.mp hu).1
        have h2 := hcc i hi
        rw [hu] at h2
        rw [add_add, hcells] at h2
        exact h2
      · obtain ⟨i, hi⟩ := List.mem_iff_getElem?.mp hp
        obtain ⟨_, _, _, _, _, h1, _⟩ := hxq i p hi
        exact h1
      · have := hw ((elems.length + rest.length) * P.bytesOf e) (by simp [DataW.weights, ht])
        refine Nat.le_trans (Nat.mul_le_mul_right _ ?_) this
        omega
      · obtain ⟨i, hi⟩ := List.mem_iff_getElem?.mp hp
        obtain ⟨_, y, _, hy, _, _, h1, _⟩ := hxq i p hi
        refine h1 fun n hn => hw n ?_
        simp only [DataW.weights, ht, List.mem_cons, List.mem_append]
        exact .inr (.inl (weights_mem _ i y.1 (by simp [hy]) n hn))
      · have h1 := bulk_sum (wt := wt) xs elems (by omega) (fun i a e ha he => by
          obtain ⟨_, y, _, hy, _, _, _, h2⟩ := hxq i a ha
          rw [hy] at he
          injection he with he
          exact he ▸ h2)
        simp only [Rows.uptoBulk]
        omega

/-- the fields of a struct from one on, read by d. -/
structure Fld {α : Type} (P : Program) (fs : List Field) (o : Nat) (d : Kd α) (ok sz : α → Prop) (wt : α → Nat) : Prop where
  read : ∀ {H : Type} {enc : TypeId × Value → H} {w : World} {base : Nat} {spare : Nat → Bool} {held : Bool} {fuel : Nat} {cs : List Value} {xs : List (DataW H × List MemPlace)}, cs.length = o + d.sz → xs.length = fs.length → (∀ (i : Nat) f, fs[i]? = some f → DataW.trod enc P w base spare held fuel f.type ((cs.drop f.offset).take (P.cellsOf f.type)) = xs[i]?) →
    ∃ a, d.K w a (cs.drop o) ∧ ok a ∧ ((∀ n ∈ DataW.weightsEach P (fs.map (·.type)) (xs.map (·.1)), n ≤ reachBytes) → sz a) ∧ wt a ≤ Rows.uptoBulkAll (xs.map (·.1))
theorem Fld.one {α : Type} {P : Program} {f : Field} {o : Nat} {d : Kd α} {ok sz : α → Prop} {wt : α → Nat} (h : Opn P f.type d ok sz wt) (ho : f.offset = o) : Fld P [f] o d ok sz wt where
  read := by
    intro H enc w base spare held fuel cs xs hl hx hat
    match xs, hx with
    | [x], _ =>
      have h1 := hat 0 f rfl
      obtain ⟨a, h2, h3, h4, h5⟩ := h.read h1
      have hc := h.cells
      rw [ho, List.take_of_length_le (by rw [List.length_drop]; omega)] at h2
      refine ⟨a, h2, h3, fun hn => h4 fun n hm => hn n ?_, ?_⟩
      · simp [DataW.weightsEach]
        exact hm
      · simp [Rows.uptoBulkAll]
        omega
theorem Fld.cons {α β : Type} {P : Program} {f : Field} {fs : List Field} {o o' : Nat} {d : Kd α} {d' : Kd β} {ok sz : α → Prop} {wt : α → Nat} {ok' sz' : β → Prop} {wt' : β → Nat} (h : Opn P f.type d ok sz wt) (ho : f.offset = o) (hs : o' = o + d.sz) (r : Fld P fs o' d' ok' sz' wt') :
    Fld P (f :: fs) o (Kd.pair d d') (fun p => ok p.1 ∧ ok' p.2) (fun p => sz p.1 ∧ sz' p.2) (fun p => wt p.1 + wt' p.2) where
  read := by
    intro H enc w base spare held fuel cs xs hl hx hat
    match xs, hx with
    | x :: xs, hx =>
      have hl2 : cs.length = o + (d.sz + d'.sz) := hl
      clear hl
      have hl3 : cs.length = o' + d'.sz := by omega
      have h1 := hat 0 f rfl
      obtain ⟨a, h2, h3, h4, h5⟩ := h.read h1
      obtain ⟨b, h6, h7, h8, h9⟩ := r.read hl3 (by simpa using hx) (fun i g hg => by have := hat (i + 1) g (by simpa using hg); simpa using this)
      have hc := h.cells
      rw [ho] at h2
      refine ⟨(a, b), ⟨_, _, ?_, h2, h6⟩, ⟨h3, h7⟩, fun hn => ⟨h4 fun n hm => hn n ?_, h8 fun n hm => hn n ?_⟩, ?_⟩
      · rw [hs, hc, ← List.drop_drop, List.take_append_drop]
      · simp only [List.map_cons, DataW.weightsEach, List.mem_append]
        exact .inl hm
      · simp only [List.map_cons, DataW.weightsEach, List.mem_append]
        exact .inr hm
      · simp only [List.map_cons, Rows.uptoBulkAll]
        omega
theorem Opn.struct {α : Type} {P : Program} {t : TypeId} {fs : Array Field} {d : Kd α} {ok sz : α → Prop} {wt : α → Nat} (ht : P.underlying t = some (.struct fs)) (hc : P.cellsOf t = d.sz) (h : Fld P fs.toList 0 d ok sz wt) :
    Opn P t d ok sz (fun a => wt a + 1) where
  cells := hc
  pos := fun _ => Nat.le_add_left _ _
  read := by
    intro H enc w base spare held fuel cs x hx
    obtain ⟨xs, n, rfl, rfl, hl, hxl, hat⟩ := DataW.trod_struct ht hx
    obtain ⟨a, h1, h2, h3, h4⟩ := h.read (cs := cs) (xs := xs) (by omega) (by simpa using hxl) (fun i f hf => hat i f (by simpa using hf))
    refine ⟨a, by simpa using h1, h2, fun hn => h3 fun n hm => hn n ?_, ?_⟩
    · simp only [DataW.weights, ht]
      exact hm
    · simp only [Rows.uptoBulk]
      omega
theorem Opn.map {α β : Type} {P : Program} {t : TypeId} {d : Kd α} {ok sz : α → Prop} {wt : α → Nat} (h : Opn P t d ok sz wt) (f : α → β) (d' : Kd β) (hs : d.sz = d'.sz) (hK : ∀ w a cs, d.K w a cs → d'.K w (f a) cs) (ok' sz' : β → Prop) (wt' : β → Nat)
    (h1 : ∀ a, ok a → ok' (f a)) (h2 : ∀ a, sz a → sz' (f a)) (h3 : ∀ a, wt' (f a) ≤ wt a) (h4 : ∀ b, 1 ≤ wt' b) : Opn P t d' ok' sz' wt' where
  cells := h.cells.trans hs
  pos := h4
  read := by
    intro H enc w base spare held fuel cs x hx
    obtain ⟨a, k1, k2, k3, k4⟩ := h.read hx
    exact ⟨f a, hK _ _ _ k1, h1 _ k2, fun hn => h2 _ (k3 hn), Nat.le_trans (h3 a) k4⟩
end Go.Proofs.YthckjbmgeidkgaaDoor.Open
