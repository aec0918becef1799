/- tappetlaw01.Own: byte slices that are each their own: what is kept while they are written over and grown. -/
import Derived.Test.YtbhlalnpefijkaaXCx2
namespace Go.Proofs.Ytbhlalnpefijkaa.XC
set_option linter.unusedVariables false
set_option linter.unusedSimpArgs false
open Go.RowKit Go.Proofs.YtbhlalnpefijkaaW.PrintWords Go.Proofs.YtbhlalnpefijkaaW.PrintLast Go.Proofs.YtbhlalnpefijkaaW.PrintMore

/-- an append, and what lies ahead in the same block -/
theorem run_append_keep {P : Program} (w : World) (base : Nat) (t ty e : TypeId) (i : TypeInfo) (z : Value) (size bytes : Nat) (ht : P.underlying t = some (.slice e)) (hi : P.info? e = some i) (hz : i.zero = some z)
    (hsize : i.size = size) (hby : i.bytes = bytes) (hzs : z.cells.size = size) (hsz : 0 < size)
    (v : Value) (n : Nat) (xs : List Value) (hown : w.ownsRow base e size v n xs)
    (a : Addr) (m c : Nat) (news : List Value) (hl : news.length = m * size) (hnews : ∀ j u, news[j]? = some u → w.cell? (a.add j) = some u) (h1 : ∀ u ∈ news, u.oneCell' = true) (hm : 0 < m)
    (h63 : n + m ≤ maxLen) (hbytes : (n + m) * bytes ≤ 140737488355328) (hbase : base ≤ w.heap.size) :
    ∃ v' w', (Builtin.append_ #[t, t] ty #[v, .slice (some a) m c]).run P w = .ok v' w' ∧ w'.ownsRow base e size v' (n + m) (xs ++ news) ∧ w.grownBy w' v.ownBlock ∧ (v'.ownBlock = v.ownBlock ∨ v'.ownBlock = some w.heap.size) ∧
      ∀ base0 v0 n0 xs0, w.ownsRow base0 e size v0 n0 xs0 → v0.ownBlock = v.ownBlock → n0 ≤ n → w'.ownsRow base0 e size v0 n0 xs0 := by
  obtain ⟨v', w', hr, h2, h3, _, h5⟩ := run_append_own_at (P := P) w base t ty e i z size bytes ht hi hz hsize hby hzs hsz v n xs hown a m c news hl hnews h1 h63 hbytes hbase
  refine ⟨v', w', hr, h2, h3, h5, ?_⟩
  intro base0 v0 n0 xs0 h0 hb0 hn0
  have hsmall : n + m ≤ 9223372036854775807 := by simp only [maxLen] at h63; omega
  subst hsize
  subst hby
  rcases hown.2 with ⟨rfl, rfl⟩ | ⟨g, cap, cur, rfl, hbg, hg, hnc, hcm, hcs, htake⟩
  · rcases h0.2 with h | ⟨g0, _, _, rfl, _⟩
    · exact ⟨h0.1, .inl h⟩
    · simp [Value.ownBlock] at hb0
  · rcases h0.2 with h | ⟨g0, cap0, cur0, rfl, hbg0, hg0, hnc0, hcm0, hcs0, htake0⟩
    · exact ⟨h0.1, .inl h⟩
    · obtain rfl : g0 = g := by simpa [Value.ownBlock] using hb0
      obtain rfl : cur0 = cur := by rw [hg0] at hg; injection hg with hg; injection hg
      by_cases hroom : n + m ≤ cap
      · have hfit : n * i.size + news.length ≤ cur0.size := by rw [hl, hcs, ← Nat.add_mul]; exact Nat.mul_le_mul_right _ hroom
        have hr2 := run_append_room (P := P) w t ty e i ht hi g0 n cap cur0 hg a m c news hl hnews h1 hroom hfit
        rw [hr2] at hr
        injection hr with _ hw
        subst hw
        refine ⟨h0.1, .inr ⟨g0, cap0, _, rfl, hbg0, setRow_heap w g0 cur0 _ e _ hg, hnc0, hcm0, ?_, ?_⟩⟩
        · simp only [List.size_toArray, List.length_append, List.length_take, List.length_drop, Array.length_toList]
          omega
        · have hle : n0 * i.size ≤ n * i.size := Nat.mul_le_mul_right _ hn0
          rw [← htake0, List.append_assoc, List.take_append_of_le_length (by rw [List.length_take, Array.length_toList]; omega), List.take_take, Nat.min_eq_left hle]
      · have holds : ∀ j u, xs[j]? = some u → w.cell? ((⟨g0, 0, none⟩ : Addr).add j) = some u := hown.cells (g := g0) rfl
        have hr2 := run_append_grow (P := P) w t ty e i z ht hi hz ⟨g0, 0, none⟩ n cap xs hown.1 holds a m c news hl hnews (by omega) (by omega) (growslice_fits (by omega) hbytes)
        rw [hr2] at hr
        injection hr with _ hw
        subst hw
        exact ⟨h0.1, .inr ⟨g0, cap0, cur0, rfl, hbg0, (heap_alloc_old w.drew _ (blk_lt hg)).trans hg, hnc0, hcm0, hcs0, htake0⟩⟩

/-! ### a family of rows of bytes -/
/-- an own row of bytes -/
def US (w : World) (b : Nat) (v : Value) (xs : List Int) : Prop := w.ownsRow b 5 1 v xs.length (encs (Value.int .u8) xs)
theorem US.move {w w1 : World} {b : Nat} {v : Value} {xs : List Int} (h : US w b v xs) (hm : ∀ k, v.ownBlock = some k → w1.heap[k]? = w.heap[k]?) : US w1 b v xs := own_move h hm
theorem US.lt {w : World} {b : Nat} {v : Value} {xs : List Int} (h : US w b v xs) (k : Nat) (hk : v.ownBlock = some k) : k < w.heap.size := by
  obtain ⟨_, hc⟩ := own_typed h k hk
  exact blk_lt hc
theorem US.grown {w w1 : World} {b : Nat} {v : Value} {xs : List Int} {row : Option Nat} (h : US w b v xs) (hg : w.grownBy w1 row) (hne : v.ownBlock = none ∨ v.ownBlock ≠ row) : US w1 b v xs :=
  h.move fun k hk => hg.block k (h.lt k hk) (fun e => by rcases hne with hne | hne; · rw [hne] at hk; cases hk
                                                         · exact hne (hk.trans e))
theorem US.below {w w1 : World} {b : Nat} {v : Value} {xs : List Int} (h : US w b v xs) (hb : Below w.heap.size w w1) : US w1 b v xs := h.move fun k hk => hb.block k (h.lt k hk)
theorem US.form {w : World} {b : Nat} {v : Value} {xs : List Int} (h : US w b v xs) (hp : 0 < xs.length) : ∃ g c, v = .slice (some ⟨g, 0, none⟩) xs.length c ∧ b ≤ g ∧ xs.length ≤ c := by
  rcases h.2 with ⟨_, h0⟩ | ⟨g, cap, cur, rfl, hb, _, hc, _⟩
  · omega
  · exact ⟨g, cap, rfl, hb, hc⟩
theorem US.slice {w : World} {b : Nat} {v : Value} {xs : List Int} (h : US w b v xs) : ∃ A c, v = .slice A xs.length c := by
  rcases h.2 with ⟨h1, h0⟩ | ⟨g, cap, cur, rfl, hb, _, hc, _⟩
  · exact ⟨none, 0, by rw [h1, h0]⟩
  · exact ⟨_, _, rfl⟩
theorem US.cell {w : World} {b g c : Nat} {n : Nat} {xs : List Int} (h : US w b (.slice (some ⟨g, 0, none⟩) n c) xs) (k : Nat) (hk : k < xs.length) : w.cell? ⟨g, k, none⟩ = some (.int .u8 (xs.getD k 0)) ∧ w.frozen? ⟨g, k, none⟩ = false := by
  have hn : n = xs.length := by
    rcases h.2 with ⟨h1, _⟩ | ⟨_, _, _, h1, _⟩
    · injection h1 with h1; cases h1
    · injection h1
  subst hn
  have h2 := own_at_of (d := (0 : Int)) h (k : Int) (by omega) (by omega)
  rw [Int.toNat_natCast] at h2
  unfold rdOf at h2
  rw [Int.toNat_natCast] at h2
  exact h2
theorem US.put {w : World} {b g c : Nat} {n : Nat} {xs : List Int} (h : US w b (.slice (some ⟨g, 0, none⟩) n c) xs) (k : Nat) (x : Int) : US (w.setCell ⟨g, k, none⟩ (.int .u8 x)) b (.slice (some ⟨g, 0, none⟩) n c) (xs.set k x) ∧ w.grownBy (w.setCell ⟨g, k, none⟩ (.int .u8 x)) (some g) := by
  have hn : n = xs.length := by
    rcases h.2 with ⟨h1, _⟩ | ⟨_, _, _, h1, _⟩
    · injection h1 with h1; cases h1
    · injection h1
  subst hn
  obtain ⟨h2, h3⟩ := own_store_of h (k : Int) x
  rw [Int.toNat_natCast] at h2 h3
  refine ⟨?_, h3⟩
  unfold US
  rw [List.length_set]
  exact h2
/-- the rows of a list -/
def Rows (w : World) (b : Nat) (vs : List Value) (f : Nat → List Int) : Prop := ∀ (i : Nat) (v : Value), vs[i]? = some v → US w b v (f i)
structure Apart (vs : List Value) (g : Nat) : Prop where
  own : ∀ (i j : Nat) (v u : Value), vs[i]? = some v → vs[j]? = some u → i ≠ j → v.ownBlock = none ∨ v.ownBlock ≠ u.ownBlock
  list : ∀ (i : Nat) (v : Value), vs[i]? = some v → v.ownBlock ≠ some g
def ListAt (w : World) (A : Option Addr) (g : Nat) (vs : List Value) : Prop := ∀ (i : Nat) (v : Value), vs[i]? = some v → ∃ ad, A = some ad ∧ (ad.add i).block = g ∧ w.cell? (ad.add i) = some v
theorem ListAt.move {w w1 : World} {A : Option Addr} {g : Nat} {vs : List Value} (h : ListAt w A g vs) (hm : g < w.heap.size → w1.heap[g]? = w.heap[g]?) : ListAt w1 A g vs := by
  intro i v hv
  obtain ⟨ad, h1, h2, h3⟩ := h i v hv
  refine ⟨ad, h1, h2, ?_⟩
  have hlt : g < w.heap.size := by rw [← h2]; exact World.block_lt_of_cell? w _ h3
  rw [World.cell?_of_block (w := w) (by rw [h2]; exact hm hlt)]
  exact h3
theorem Rows.put {w w1 : World} {b g : Nat} {vs : List Value} {f f1 : Nat → List Int} (h : Rows w b vs f) (ha : Apart vs g) (k : Nat) (v : Value) (hk : vs[k]? = some v) (hv : US w1 b v (f1 k)) (hg : w.grownBy w1 v.ownBlock) (hf : ∀ j, j ≠ k → f1 j = f j) : Rows w1 b vs f1 := by
  intro i u hu
  by_cases e : i = k
  · subst e
    rw [hk] at hu
    injection hu with hu
    subst hu
    exact hv
  · rw [hf i e]
    exact (h i u hu).grown hg (ha.own i k u v hu hk e)
theorem ListAt.grown {w w1 : World} {A : Option Addr} {g : Nat} {vs : List Value} (h : ListAt w A g vs) (ha : Apart vs g) (k : Nat) (v : Value) (hk : vs[k]? = some v) (hg : w.grownBy w1 v.ownBlock) : ListAt w1 A g vs :=
  h.move fun hlt => hg.block g hlt (fun e => ha.list k v hk e.symm)

/-- the byte that is written over the i-th row -/
def b2 (i : Nat) : Int := (2 * (i : Int)) % 256
def G (f : Nat → List Int) (i : Nat) : List Int := List.replicate (f i).length (b2 i)
def mix (f : Nat → List Int) (i m : Nat) : List Int := (G f i).take m ++ (f i).drop m
theorem mix_length (f : Nat → List Int) (i m : Nat) (h : m ≤ (f i).length) : (mix f i m).length = (f i).length := by
  unfold mix G
  simp
  omega
theorem mix_succ (f : Nat → List Int) (i m : Nat) (h : m < (f i).length) : (mix f i m).set m (b2 i) = mix f i (m + 1) := by
  unfold mix G
  rw [List.set_append_right _ _ (by simp; omega)]
  simp only [List.take_replicate, List.length_replicate, Nat.min_eq_left (Nat.le_of_lt h), Nat.sub_self]
  rw [List.drop_eq_getElem_cons h, List.set_cons_zero, Nat.min_eq_left h, List.replicate_succ', List.append_assoc]
  rfl
theorem mix_all (f : Nat → List Int) (i : Nat) : mix f i (f i).length = G f i := by
  unfold mix G
  simp
theorem mix_none (f : Nat → List Int) (i : Nat) : mix f i 0 = f i := by
  unfold mix
  simp

theorem info23 : (Try.prog.info? 23).map (fun i => (i.zero, i.size, i.bytes)) = some (some (.slice none 0 0), 1, 24) := by kernel_rfl
/-- a byte that is appended, and what lies ahead in the same block -/
theorem app_keep {ops : Array Oper} {rest : List Oper} {o : Oper} {a : Act} {Q : Exit → Act → World → Prop} (W : World) (b : Nat) (hgd : o.guard = none) (s x : Operand) (ho : o.op = .call { callee := .builtin .append, args := #[s, x], argTypes := #[23, 23] })
    (v : Value) (xs : List Int) (y : Int) (hs : a.eval s = v) (hx : a.eval x = .slice (some ⟨W.heap.size, 0, none⟩) 1 1) (HO : US W b v xs) (hb : b ≤ W.heap.size) (hl : xs.length + 1 ≤ 140737488355328)
    (h : ∀ v1 w1, US w1 b v1 (xs ++ [y]) → W.grownBy w1 v.ownBlock → (v1.ownBlock = v.ownBlock ∨ ∃ q, v1.ownBlock = some q ∧ W.heap.size ≤ q) → (∀ b0 v0 xs0, US W b0 v0 xs0 → v0.ownBlock = v.ownBlock → xs0.length ≤ xs.length → US w1 b0 v0 xs0) → wpList Try.prog ops Q rest (a.put o.dst v1) w1) :
    wpList Try.prog ops Q (o :: rest) a (W.alloc (.cells #[.int .u8 y] 5)) := by
  obtain ⟨i0, hi, hzz⟩ := Option.map_eq_some_iff.1 info5
  simp only [Prod.mk.injEq] at hzz
  obtain ⟨hz0, hz1, hz2⟩ := hzz
  refine wpList_plain hgd fun K hK => ?_
  obtain ⟨v', w', hr, h2, h3, h4, h5⟩ := run_append_keep (P := Try.prog) (W.alloc (.cells #[.int .u8 y] 5)) b 23 o.type 5 i0 (.int .u8 0) 1 1 Try.underlying23 hi hz0 hz1 hz2 rfl (by omega) v xs.length (encs (Value.int .u8) xs) (World.ownsRow.alloc HO _)
    ⟨W.heap.size, 0, none⟩ 1 1 [.int .u8 y] rfl (World.news_of_block (cs := #[.int .u8 y]) (t := 5) (fr := (0, 0)) (heap_alloc_new W _)) (by simp [Value.oneCell']) (by omega) (by simp only [maxLen]; omega) (by omega) (by simp; omega)
  have e1 : US w' b v' (xs ++ [y]) := by
    unfold US
    have : encs (Value.int .u8) (xs ++ [y]) = encs (Value.int .u8) xs ++ [.int .u8 y] := by simp [encs]
    rw [this, List.length_append]
    exact h2
  unfold Oper.wp execOp
  simp only [ho, resolve, invoke, builtin, Sem.run_bind, Sem.run_pure, Result.andThen_ok, List.map_toArray, List.map_cons, List.map_nil, hs, hx, hr]
  refine hK _ _ (h v' w' e1 (World.grownBy.trans (World.grownBy_alloc W _ _) h3) ?_ ?_)
  · rcases h4 with h4 | h4
    · exact .inl h4
    · exact .inr ⟨_, h4, by simp⟩
  · intro b0 v0 xs0 h0 hv0 hl0
    exact h5 b0 v0 xs0.length _ (World.ownsRow.alloc h0 _) hv0 hl0

/-- what stands in a slice's own cell -/
def encT (t : Option Addr × Nat × Nat) : Value := .slice t.1 t.2.1 t.2.2
/-- the byte that is put behind the i-th row -/
def c2 (i : Nat) : Int := (2 * (i : Int) + 1) % 256
def L (f : Nat → List Int) (i m : Nat) : List Int := G f i ++ List.replicate m (c2 i)
theorem L_length (f : Nat → List Int) (i m : Nat) : (L f i m).length = (f i).length + m := by simp [L, G]
theorem L_succ (f : Nat → List Int) (i m : Nat) : L f i m ++ [c2 i] = L f i (m + 1) := by
  unfold L
  rw [List.append_assoc, List.replicate_succ']
theorem L_none (f : Nat → List Int) (i : Nat) : L f i 0 = G f i := by simp [L]
theorem L_get (f : Nat → List Int) (i m : Nat) (h : m < 20) : (L f i 20).getD ((f i).length + m) 0 = c2 i := by
  unfold L G
  rw [List.getD_eq_getElem?_getD, List.getElem?_append_right (by simp), List.length_replicate, List.getElem?_replicate, if_pos (by omega)]
  rfl
theorem G_get (f : Nat → List Int) (i m : Nat) (h : m < (f i).length) : (G f i).getD m 0 = b2 i := by
  unfold G
  simp [List.getD_eq_getElem?_getD, h]
theorem G_length (f : Nat → List Int) (i : Nat) : (G f i).length = (f i).length := by simp [G]
/-- the blocks of the rows -/
def Of (vs : List Value) (k : Nat) : Prop := ∃ v, v ∈ vs ∧ v.ownBlock = some k
/-- what a place among the rows is, while they grow: all rows read; k of them have grown copies, told by ts in the row u -/
structure Grown (w0 w : World) (b g : Nat) (A : Option Addr) (vs : List Value) (f : Nat → List Int) (u : Value) (ts : List (Option Addr × Nat × Nat)) : Prop where
  rows : Rows w b vs (G f)
  list : ListAt w A g vs
  below : Below b w0 w
  own : w.ownsRow w0.heap.size 23 1 u ts.length (encs encT ts)
  grown : ∀ (j : Nat) t, ts[j]? = some t → US w b (encT t) (L f j 20)
  sep : ∀ (j : Nat) t, ts[j]? = some t → ∀ (i : Nat) v, ts.length ≤ i → vs[i]? = some v → v.ownBlock = none ∨ v.ownBlock ≠ (encT t).ownBlock
  old : ∀ (i : Nat) v, vs[i]? = some v → ∀ q, v.ownBlock = some q → q < w0.heap.size
  gold : vs ≠ [] → g < w0.heap.size
  size : w0.heap.size ≤ w.heap.size
  kept : Kept w0 w (Of vs)
/-- .. and while the k-th copy grows: x so far -/
structure Growing (w0 ws w : World) (b g : Nat) (A : Option Addr) (vs : List Value) (f : Nat → List Int) (u : Value) (ts : List (Option Addr × Nat × Nat)) (v x : Value) (m : Nat) : Prop where
  all : Grown w0 w b g A vs f u ts
  hx : US w b x (L f ts.length m)
  at_ : x.ownBlock = v.ownBlock ∨ ∃ q, x.ownBlock = some q ∧ ws.heap.size ≤ q
  tsold : ∀ (j : Nat) t, ts[j]? = some t → ∀ q, (encT t).ownBlock = some q → q < ws.heap.size
  uold : ∀ q, u.ownBlock = some q → q < ws.heap.size
  wsold : w0.heap.size ≤ ws.heap.size
  size : ws.heap.size ≤ w.heap.size

theorem typed_ne {w : World} {b b' n n' : Nat} {v u : Value} {xs ys : List Value} (h : w.ownsRow b 5 1 v n xs) (h' : w.ownsRow b' 23 1 u n' ys) : v.ownBlock = none ∨ v.ownBlock ≠ u.ownBlock := by
  rcases hv : v.ownBlock with _ | k
  · exact .inl rfl
  · right
    intro e
    obtain ⟨c, hc⟩ := own_typed h k hv
    obtain ⟨c', hc'⟩ := own_typed h' k e.symm
    rw [hc] at hc'
    injection hc' with hc'
    injection hc' with _ h5 _
    cases h5
theorem Grown.move {w0 w w1 : World} {b g : Nat} {A : Option Addr} {vs : List Value} {f : Nat → List Int} {u : Value} {ts : List (Option Addr × Nat × Nat)} (h : Grown w0 w b g A vs f u ts) (hb : Below w.heap.size w w1) (hbb : b ≤ w0.heap.size) : Grown w0 w1 b g A vs f u ts where
  rows := fun i v hv => (h.rows i v hv).below hb
  list := h.list.move fun hlt => hb.block g hlt
  below := h.below.trans (hb.mono (Nat.le_trans hbb h.size))
  own := own_move h.own fun k hk => by
    obtain ⟨c, hc⟩ := own_typed h.own k hk
    exact hb.block k (blk_lt hc)
  grown := fun j t ht => (h.grown j t ht).below hb
  sep := h.sep
  old := h.old
  gold := h.gold
  size := Nat.le_trans h.size hb.size
  kept := h.kept.below hb
theorem Growing.move {w0 ws w w1 : World} {b g : Nat} {A : Option Addr} {vs : List Value} {f : Nat → List Int} {u : Value} {ts : List (Option Addr × Nat × Nat)} {v x : Value} {m : Nat} (h : Growing w0 ws w b g A vs f u ts v x m) (hb : Below w.heap.size w w1) (hbb : b ≤ w0.heap.size) : Growing w0 ws w1 b g A vs f u ts v x m where
  all := h.all.move hb hbb
  hx := h.hx.below hb
  at_ := h.at_
  tsold := h.tsold
  uold := h.uold
  wsold := h.wsold
  size := Nat.le_trans h.size hb.size
theorem Grown.start {w0 w : World} {b g : Nat} {A : Option Addr} {vs : List Value} {f : Nat → List Int} {u : Value} {ts : List (Option Addr × Nat × Nat)} {v : Value} (h : Grown w0 w b g A vs f u ts) (hv : vs[ts.length]? = some v) : Growing w0 w w b g A vs f u ts v v 0 where
  all := h
  hx := by rw [L_none]; exact h.rows _ v hv
  at_ := .inl rfl
  tsold := fun j t ht q hq => (h.grown j t ht).lt q hq
  uold := fun q hq => by
    obtain ⟨c, hc⟩ := own_typed h.own q hq
    exact blk_lt hc
  wsold := h.size
  size := Nat.le_refl _
theorem Growing.step {w0 ws w w1 : World} {b g : Nat} {A : Option Addr} {vs : List Value} {f : Nat → List Int} {u : Value} {ts : List (Option Addr × Nat × Nat)} {v x v1 : Value} {m : Nat} (h : Growing w0 ws w b g A vs f u ts v x m) (ha : Apart vs g) (hv : vs[ts.length]? = some v)
    (h1 : US w1 b v1 (L f ts.length m ++ [c2 ts.length])) (hg : w.grownBy w1 x.ownBlock) (hat : v1.ownBlock = x.ownBlock ∨ ∃ q, v1.ownBlock = some q ∧ w.heap.size ≤ q) (hk : ∀ b0 v0 xs0, US w b0 v0 xs0 → v0.ownBlock = x.ownBlock → xs0.length ≤ (L f ts.length m).length → US w1 b0 v0 xs0) (hbb : b ≤ w0.heap.size) :
    Growing w0 ws w1 b g A vs f u ts v v1 (m + 1) where
  all :=
    { rows := by
        intro i u' hu'
        by_cases e : i = ts.length
        · subst e
          rw [hv] at hu'
          injection hu' with hu'
          subst hu'
          rcases h.at_ with hx | ⟨q, hq, hle⟩
          · exact hk _ _ _ (h.all.rows _ v hv) hx.symm (by rw [L_length, G_length]; omega)
          · refine (h.all.rows _ v hv).grown hg ?_
            rcases hvo : v.ownBlock with _ | q'
            · exact .inl rfl
            · right
              rw [hq]
              intro e2
              injection e2 with e2
              have := h.all.old _ v hv q' hvo
              have := h.wsold
              omega
        · refine (h.all.rows i u' hu').grown hg ?_
          rcases h.at_ with hx | ⟨q, hq, hle⟩
          · rw [hx]
            exact ha.own i _ u' v hu' hv e
          · rcases hvo : u'.ownBlock with _ | q'
            · exact .inl rfl
            · right
              rw [hq]
              intro e2
              injection e2 with e2
              have := h.all.old _ u' hu' q' hvo
              have := h.wsold
              omega
      list := by
        refine h.all.list.move fun hlt => hg.block g hlt ?_
        intro e
        rcases h.at_ with hx | ⟨q, hq, hle⟩
        · exact ha.list _ v hv (hx.symm.trans e.symm)
        · rw [hq] at e
          injection e with e
          have := h.all.gold (fun hn => by rw [hn] at hv; simp at hv)
          have := h.wsold
          omega
      below := by
        refine h.all.below.grown hg (Nat.le_trans hbb h.all.size) (own_base h.hx)
      own := own_move h.all.own fun k hk' => by
        obtain ⟨c, hc⟩ := own_typed h.all.own k hk'
        refine hg.block k (blk_lt hc) ?_
        intro e
        rcases typed_ne h.hx h.all.own with hn | hn
        · rw [hn] at e; cases e
        · exact hn (e.symm.trans hk'.symm)
      grown := by
        intro j t ht
        refine (h.all.grown j t ht).grown hg ?_
        rcases hto : (encT t).ownBlock with _ | q'
        · exact .inl rfl
        · right
          intro e
          rcases h.at_ with hx | ⟨q, hq, hle⟩
          · rcases h.all.sep j t ht _ v (Nat.le_refl _) hv with hn | hn
            · rw [hx, hn] at e; cases e
            · exact hn (by rw [hto, e, hx])
          · rw [hq] at e
            injection e with e
            have := h.tsold j t ht q' hto
            omega
      sep := h.all.sep
      old := h.all.old
      gold := h.all.gold
      size := Nat.le_trans h.all.size hg.size
      kept := Kept.of_grown hg h.all.kept fun k hk => by
        rcases h.at_ with hx | ⟨q, hq, hle⟩
        · exact .inl ⟨v, List.mem_of_getElem? hv, hx.symm.trans hk⟩
        · rw [hq] at hk
          injection hk with hk
          have := h.wsold
          exact .inr (by omega) }
  hx := by rw [← L_succ]; exact h1
  at_ := by
    rcases hat with hat | ⟨q, hq, hle⟩
    · rw [hat]; exact h.at_
    · exact .inr ⟨q, hq, Nat.le_trans h.size hle⟩
  tsold := h.tsold
  uold := h.uold
  wsold := h.wsold
  size := Nat.le_trans h.size hg.size
theorem Growing.done {w0 ws w w1 : World} {b g : Nat} {A : Option Addr} {vs : List Value} {f : Nat → List Int} {u u1 : Value} {ts : List (Option Addr × Nat × Nat)} {v x : Value} (t : Option Addr × Nat × Nat) (ht : encT t = x) (h : Growing w0 ws w b g A vs f u ts v x 20) (ha : Apart vs g) (hv : vs[ts.length]? = some v)
    (h1 : w1.ownsRow w0.heap.size 23 1 u1 (ts ++ [t]).length (encs encT (ts ++ [t]))) (hg : w.grownBy w1 u.ownBlock) (hbb : b ≤ w0.heap.size) :
    Grown w0 w1 b g A vs f u1 (ts ++ [t]) where
  rows := fun i v' hv' => (h.all.rows i v' hv').grown hg (typed_ne (h.all.rows i v' hv') h.all.own)
  list := by
    refine h.all.list.move fun hlt => hg.block g hlt ?_
    intro e
    have h2 := own_base h.all.own g e.symm
    have := h.all.gold (fun hn => by rw [hn] at hv; simp at hv)
    omega
  below := h.all.below.grown hg (Nat.le_trans hbb h.all.size) (fun k hk => Nat.le_trans hbb (own_base h.all.own k hk))
  own := h1
  grown := by
    intro j t' ht'
    rcases Nat.lt_or_ge j ts.length with hj | hj
    · rw [List.getElem?_append_left hj] at ht'
      exact (h.all.grown j t' ht').grown hg (typed_ne (h.all.grown j t' ht') h.all.own)
    · rw [List.getElem?_append_right hj] at ht'
      have hj0 : j = ts.length := by
        rcases Nat.eq_or_lt_of_le hj with e | e
        · exact e.symm
        · rw [List.getElem?_eq_none (by simp; omega)] at ht'; cases ht'
      subst hj0
      simp at ht'
      subst ht'
      rw [ht]
      exact h.hx.grown hg (typed_ne h.hx h.all.own)
  sep := by
    intro j t' ht' i v' hi hv'
    rw [List.length_append, List.length_singleton] at hi
    rcases Nat.lt_or_ge j ts.length with hj | hj
    · rw [List.getElem?_append_left hj] at ht'
      exact h.all.sep j t' ht' i v' (by omega) hv'
    · rw [List.getElem?_append_right hj] at ht'
      have hj0 : j = ts.length := by
        rcases Nat.eq_or_lt_of_le hj with e | e
        · exact e.symm
        · rw [List.getElem?_eq_none (by simp; omega)] at ht'; cases ht'
      subst hj0
      simp at ht'
      subst ht'
      rw [ht]
      rcases h.at_ with hx | ⟨q, hq, hle⟩
      · rw [hx]
        exact ha.own i _ v' v hv' hv (by omega)
      · rcases hvo : v'.ownBlock with _ | q'
        · exact .inl rfl
        · right
          rw [hq]
          intro e2
          injection e2 with e2
          have := h.all.old _ v' hv' q' hvo
          have := h.wsold
          omega
  old := h.all.old
  gold := h.all.gold
  size := Nat.le_trans h.all.size hg.size
  kept := Kept.of_grown hg h.all.kept fun k hk => .inr (own_base h.all.own k hk)

set_option maxRecDepth 1000000 in
set_option maxHeartbeats 2000000 in
theorem own_keeps (w : World) (b g c : Nat) (A : Option Addr) (vs : List Value) (f : Nat → List Int) (hr : Rows w b vs f) (ha : Apart vs g) (hl : ListAt w A g vs) (hb : b ≤ w.heap.size) (hn : vs.length * 24 ≤ 140737488355328) (hf : ∀ i, (f i).length ≤ 140737488355300) :
    Calls Try.prog 17 #[.slice A vs.length c] w fun e w' => e = .returned (.bool true) ∧ Below b w w' ∧ Kept w w' (Of vs) := by
  go_enter Try.func17, Try.ntmps17
  have hold : Aside0 (∀ (i : Nat) v, vs[i]? = some v → ∀ q, v.ownBlock = some q → q < w.heap.size) := ⟨fun i v hv q hq => (hr i v hv).lt q hq⟩
  have hgold : Aside0 (vs ≠ [] → g < w.heap.size) := ⟨fun hne => by
    obtain ⟨ad, _, h2, h3⟩ := hl 0 vs[0]! (by cases vs with | nil => exact absurd rfl hne | cons x l => rfl)
    rw [← h2]; exact World.block_lt_of_cell? w _ h3⟩
  have HR0 := Aside0.mk hr
  have HL0 := Aside0.mk hl
  clear hr hl
  go_wp2_with fail
  go_loopw [3] (fun i wr => ∃ k : Nat, k ≤ vs.length ∧ i = .int .i64 k ∧ Aside0 (Rows wr b vs (fun j => if j < k then G f j else f j)) ∧ Aside0 (Below b w wr) ∧ Aside0 (ListAt wr A g vs) ∧ Aside0 (Kept w wr (Of vs))) (fun i _ => vs.length - (intOf i).toNat)
  case atStart => exact ⟨0, by omega, rfl, ⟨by simpa using HR0.out⟩, ⟨Below.refl _ _⟩, HL0, ⟨Kept.refl _ _⟩⟩
  case round =>
    obtain ⟨k, hk, rfl, HR, HB, HL, HKp⟩ := hrel
    by_cases hlt : k < vs.length
    · have hd : decide ((k : Int) < (vs.length : Int)) = true := decide_eq_true (by omega)
      have hvk : vs[k]? = some vs[k] := List.getElem?_eq_getElem hlt
      obtain ⟨ad, hA, hg, hc⟩ := HL.out k _ hvk
      subst hA
      go_wp2_with fail
      go_loopw [4] (fun y wr' => ∃ m : Nat, m ≤ (f k).length ∧ y = .int .i64 m ∧ Aside0 (Rows wr' b vs (fun j => if j < k then G f j else if j = k then mix f k m else f j)) ∧ Aside0 (Below b w wr') ∧ Aside0 (ListAt wr' (some ad) g vs) ∧ Aside0 (Kept w wr' (Of vs))) (fun y _ => (f k).length - (intOf y).toNat)
      case atStart => exact ⟨0, by omega, rfl, ⟨fun i v hv => by
        have := HR.out i v hv
        rw [mix_none]
        by_cases e1 : i < k
        · simpa [e1] using this
        · by_cases e2 : i = k
          · subst e2; simpa using this
          · simpa [e1, e2] using this⟩, HB, HL, HKp⟩
      case round =>
        obtain ⟨m, hm, rfl, HR2, HB2, HL2, HK2⟩ := hrel
        have hus : US wr b vs[k] (mix f k m) := by simpa using HR2.out k _ hvk
        obtain ⟨Ak, ck, hvs⟩ := hus.slice
        rw [mix_length f k m hm] at hvs
        obtain ⟨ad', hA', hg', hc'⟩ := HL2.out k _ hvk
        cases hA'
        rw [hvs] at hc'
        have hlen := hf k
        by_cases hlt2 : m < (f k).length
        · have hd2 : decide ((m : Int) < ((f k).length : Int)) = true := decide_eq_true (by omega)
          obtain ⟨gk, ck', he, hbg, hck⟩ := hus.form (by rw [mix_length f k m hm]; omega)
          rw [mix_length f k m hm, hvs] at he
          injection he with he1 _ he3
          subst he1 he3
          rw [hvs] at hus
          have hp := hus.put m (b2 k)
          rw [mix_succ f k m hlt2] at hp
          obtain ⟨hx0, hf0⟩ := hus.cell m (by rw [mix_length f k m hm]; exact hlt2)
          go_wp2_with fail
          go_roundw
          case rel => exact ⟨m + 1, by omega, by go_num, ⟨HR2.out.put ha k vs[k] hvk (by have h1 := hp.1; unfold b2 at h1; simpa [hvs] using h1) (by rw [hvs]; exact hp.2) (fun j hj => by simp [hj])⟩, ⟨HB2.out.grown hp.2 (Nat.le_trans hb HB2.out.size) (fun j hj => by injection hj with hj; omega)⟩, ⟨HL2.out.grown ha k _ hvk (by rw [hvs]; exact hp.2)⟩, ⟨Kept.of_grown hp.2 HK2.out (fun j hj => .inl ⟨vs[k], List.getElem_mem hlt, by rw [hvs]; exact hj⟩)⟩⟩
          case measure => simp [intOf]; omega
        · have hd2 : decide ((m : Int) < ((f k).length : Int)) = false := decide_eq_false (by omega)
          obtain rfl : m = (f k).length := by omega
          have HR3 : Aside0 (Rows wr b vs (fun j => if j < k + 1 then G f j else f j)) := ⟨fun i v hv => by
            have := HR2.out i v hv
            rw [mix_all] at this
            by_cases e1 : i < k
            · simpa [e1, Nat.lt_succ_of_lt e1] using this
            · by_cases e2 : i = k
              · subst e2; simpa using this
              · simpa [e1, e2, show ¬ i < k + 1 by omega] using this⟩
          clear HR2
          go_wp2_with fail
          go_roundw
          case rel => exact ⟨k + 1, by omega, by go_num, HR3, HB2, HL2, HK2⟩
          case measure => simp [intOf]; omega
    · have hd : decide ((k : Int) < (vs.length : Int)) = false := decide_eq_false (by omega)
      obtain rfl : k = vs.length := by omega
      have HRG : Aside0 (Rows wr b vs (G f)) := ⟨fun i v hv => by
        have hi : i < vs.length := (List.getElem?_eq_some_iff.mp hv).1
        have := HR.out i v hv
        simpa [hi] using this⟩
      clear HR
      go_wp2_with fail
      go_loopw [5] (fun i wr' => ∃ k : Nat, k ≤ vs.length ∧ i = .int .i64 k ∧ Aside0 (Rows wr' b vs (G f)) ∧ Aside0 (Below b w wr') ∧ Aside0 (ListAt wr' A g vs) ∧ Aside0 (Kept w wr' (Of vs))) (fun i _ => vs.length - (intOf i).toNat)
      case atStart => exact ⟨0, by omega, rfl, HRG, HB, HL, HKp⟩
      case round =>
        clear HRG HB HL hd HKp
        obtain ⟨k, hk, rfl, HR, HB, HL, HKp⟩ := hrel
        by_cases hlt : k < vs.length
        · have hd : decide ((k : Int) < (vs.length : Int)) = true := decide_eq_true (by omega)
          have hvk : vs[k]? = some vs[k] := List.getElem?_eq_getElem hlt
          obtain ⟨ad, hA, hg, hc⟩ := HL.out k _ hvk
          subst hA
          go_wp2_with fail
          go_loopw [6] (fun y wr' => ∃ m : Nat, m ≤ (f k).length ∧ y = .int .i64 m ∧ Aside0 (Rows wr' b vs (G f)) ∧ Aside0 (Below b w wr') ∧ Aside0 (ListAt wr' (some ad) g vs) ∧ Aside0 (Kept w wr' (Of vs))) (fun y _ => (f k).length - (intOf y).toNat)
          case atStart => exact ⟨0, by omega, rfl, HR, HB, HL, HKp⟩
          case round =>
            clear HR HB HL HKp
            obtain ⟨m, hm, rfl, HR, HB, HL, HKp⟩ := hrel
            have hus := HR.out k _ hvk
            obtain ⟨Ak, ck, hvs⟩ := hus.slice
            rw [G_length] at hvs
            obtain ⟨ad', hA', hg', hc'⟩ := HL.out k _ hvk
            cases hA'
            rw [hvs] at hc'
            have hlen := hf k
            by_cases hlt2 : m < (f k).length
            · have hd2 : decide ((m : Int) < ((f k).length : Int)) = true := decide_eq_true (by omega)
              obtain ⟨gk, ck', he, hbg, hck⟩ := hus.form (by rw [G_length]; omega)
              rw [G_length, hvs] at he
              injection he with he1 _ he3
              subst he1 he3
              rw [hvs] at hus
              obtain ⟨hx0, hf0⟩ := hus.cell m (by rw [G_length]; exact hlt2)
              rw [G_get f k m hlt2] at hx0
              unfold b2 at hx0
              have hq : ((2 * (k : Int)) % 256 != (2 * (k : Int)) % 256) = false := by simp
              go_wp2_with fail
              go_roundw
              case rel => exact ⟨m + 1, by omega, by go_num, HR, HB, HL, HKp⟩
              case measure => simp [intOf]; omega
            · have hd2 : decide ((m : Int) < ((f k).length : Int)) = false := decide_eq_false (by omega)
              obtain rfl : m = (f k).length := by omega
              go_wp2_with fail
              go_roundw
              case rel => exact ⟨k + 1, by omega, by go_num, HR, HB, HL, HKp⟩
              case measure => simp [intOf]; omega
        · have hd : decide ((k : Int) < (vs.length : Int)) = false := decide_eq_false (by omega)
          obtain rfl : k = vs.length := by omega
          go_wp2_with fail
          go_loopw [7, 8] (fun u i wr' => ∃ ts : List (Option Addr × Nat × Nat), ts.length ≤ vs.length ∧ i = .int .i64 (ts.length : Nat) ∧ Aside0 (Grown w wr' b g A vs f u ts)) (fun _ i _ => vs.length - (intOf i).toNat)
          case atStart => exact ⟨[], by simp, rfl, ⟨HR.out, HL.out, HB.out, World.ownsRow_nil _ _ _ _, fun j t ht => by simp at ht, fun j t ht => by simp at ht, hold.out, hgold.out, HB.out.size, HKp.out⟩⟩
          case round =>
            clear HR HB HL hd HKp
            obtain ⟨ts, hts, rfl, HG⟩ := hrel
            by_cases hlt : ts.length < vs.length
            · have hd : decide ((ts.length : Int) < (vs.length : Int)) = true := decide_eq_true (by omega)
              have hvk : vs[ts.length]? = some vs[ts.length] := List.getElem?_eq_getElem hlt
              obtain ⟨ad, hA, hg, hc⟩ := HG.out.list _ _ hvk
              subst hA
              go_wp2_with fail
              go_loopw [9, 10] (fun x y wr' => ∃ m : Nat, m ≤ 20 ∧ y = .int .i64 m ∧ Aside0 (Growing w wr wr' b g (some ad) vs f u7 ts vs[ts.length] x m)) (fun _ y _ => 20 - (intOf y).toNat)
              case atStart => exact ⟨0, by omega, rfl, ⟨HG.out.start hvk⟩⟩
              case round =>
                clear HG
                obtain ⟨m, hm, rfl, HX⟩ := hrel
                have hlen := hf ts.length
                by_cases hlt2 : m < 20
                · have hxl : (L f ts.length m).length + 1 ≤ 140737488355328 := by rw [L_length]; omega
                  have hbs : b ≤ wr.heap.size := Nat.le_trans hb HX.out.all.size
                  go_wp2_with ((with_reducible refine gate_builtin (b := .append) (xs := #[.tmp 78, .tmp 83]) rfl ?_); at_builtin; refine app_keep wr b rfl (.tmp 78) (.tmp 83) rfl _ (L f ts.length m) (c2 ts.length) rfl rfl HX.out.hx hbs hxl ?_; intro v1 w1 h1 hg1 hat hkp; have HX1 := Aside0.mk (HX.out.step ha hvk h1 hg1 hat hkp hb); clear h1 hg1 hat hkp)
                  go_roundw
                  case rel => exact ⟨m + 1, by omega, by go_num, HX1⟩
                  case measure => simp [intOf]; omega
                · obtain rfl : m = 20 := by omega
                  obtain ⟨Ax, cx, hxs⟩ := HX.out.hx.slice
                  have hul : (ts.length + 1) * 24 ≤ 140737488355328 := by omega
                  have hbs : w.heap.size ≤ wr.heap.size := HX.out.all.size
                  subst hxs
                  go_wp2_with ((with_reducible refine gate_builtin (b := .append) (xs := #[.tmp 85, .tmp 87]) rfl ?_); at_builtin; refine print_append_of (w0 := wr) encT w.heap.size rfl (.tmp 85) (.tmp 87) 33 23 (.slice none 0 0) 24 rfl Try.underlying33 info23 rfl (by decide) _ ts (Ax, (L f ts.length 20).length, cx) rfl rfl rfl HX.out.all.own (Below.refl _ _) hbs hul ?_; intro u1 w1 h1 _ hg1 _; have HX1 := Aside0.mk (HX.out.done (Ax, (L f ts.length 20).length, cx) rfl ha hvk h1 hg1 hb); clear h1 hg1)
                  go_roundw
                  case rel => exact ⟨ts ++ [(Ax, (L f ts.length 20).length, cx)], by simp; omega, by rw [List.length_append]; go_num, HX1⟩
                  case measure => simp [intOf]; omega
            · have hd : decide ((ts.length : Int) < (vs.length : Int)) = false := decide_eq_false (by omega)
              have hte : ts.length = vs.length := by omega
              have hhd := Aside0.mk hte
              clear hte
              go_wp2_with fail
              go_loopw [11] (fun i wr' => ∃ k : Nat, k ≤ vs.length ∧ i = .int .i64 k ∧ Aside0 (Grown w wr' b g A vs f u7 ts)) (fun i _ => vs.length - (intOf i).toNat)
              case atStart => exact ⟨0, by omega, rfl, HG⟩
              case round =>
                clear HG hd
                obtain ⟨k, hk, rfl, HG⟩ := hrel
                by_cases hlt : k < vs.length
                · have hd : decide ((k : Int) < (vs.length : Int)) = true := decide_eq_true (by omega)
                  have hkt : k < ts.length := by rw [hhd.out]; exact hlt
                  have hvk : vs[k]? = some vs[k] := List.getElem?_eq_getElem hlt
                  have htk : ts[k]? = some ts[k] := List.getElem?_eq_getElem hkt
                  obtain ⟨ad, hA, hg, hc⟩ := HG.out.list _ _ hvk
                  subst hA
                  obtain ⟨gu, cu, hu, _⟩ := HG.out.own.form (by omega)
                  rw [hhd.out] at hu
                  subst hu
                  go_wp2_with fail
                  go_loopw [12] (fun y wr' => ∃ m : Nat, m ≤ 20 ∧ y = .int .i64 m ∧ Aside0 (Grown w wr' b g (some ad) vs f (.slice (some ⟨gu, 0, none⟩) vs.length cu) ts)) (fun y _ => 20 - (intOf y).toNat)
                  case atStart => exact ⟨0, by omega, rfl, HG⟩
                  case round =>
                    clear HG hc
                    obtain ⟨m, hm, rfl, HG⟩ := hrel
                    have hlen := hf k
                    by_cases hlt2 : m < 20
                    · obtain ⟨ad', hA', hg', hc'⟩ := HG.out.list _ _ hvk
                      cases hA'
                      obtain ⟨Ak, ck, hvs⟩ := (HG.out.rows k _ hvk).slice
                      rw [G_length] at hvs
                      rw [hvs] at hc'
                      have hux := HG.out.grown k _ htk
                      obtain ⟨gx, cx, hxe, _, hxc⟩ := hux.form (by rw [L_length]; omega)
                      rw [L_length] at hxe hxc
                      rw [hxe] at hux
                      obtain ⟨hx0, _⟩ := hux.cell ((f k).length + m) (by rw [L_length]; omega)
                      rw [L_get f k m hlt2] at hx0
                      unfold c2 at hx0
                      have hown := HG.out.own
                      rw [hhd.out] at hown
                      have hcu := (own_at_of (d := ((none : Option Addr), 0, 0)) hown (k : Int) (by omega) (by omega)).1
                      have hrd : rdOf ((none : Option Addr), 0, 0) ts (k : Int) = ts[k] := by
                        unfold rdOf
                        rw [Int.toNat_natCast, List.getD_eq_getElem?_getD, htk]
                        rfl
                      rw [hrd, hxe, Int.toNat_natCast] at hcu
                      clear hux hown hrd hxe
                      have hidx : decide (((f k).length : Int) + m < ((f k).length : Int) + 20) = true := decide_eq_true (by omega)
                      have hq : ((2 * (k : Int) + 1) % 256 != (2 * (k : Int) + 1) % 256) = false := by simp
                      go_wp2_with fail
                      repeat (go_quiet (fail))
                      go_wp2_with fail
                      go_roundw
                      case rel => exact ⟨m + 1, by omega, by go_num, ⟨HG.out.move (below_drewN (Below.refl _ _) _) hb⟩⟩
                      case measure => simp [intOf]; omega
                    · obtain rfl : m = 20 := by omega
                      go_wp2_with fail
                      go_loopw [13] (fun y wr' => ∃ m : Nat, m ≤ (f k).length ∧ y = .int .i64 m ∧ Aside0 (Grown w wr' b g (some ad) vs f (.slice (some ⟨gu, 0, none⟩) vs.length cu) ts)) (fun y _ => (f k).length - (intOf y).toNat)
                      case atStart => exact ⟨0, by omega, rfl, HG⟩
                      case round =>
                        clear HG
                        obtain ⟨m, hm, rfl, HG⟩ := hrel
                        obtain ⟨ad', hA', hg', hc'⟩ := HG.out.list _ _ hvk
                        cases hA'
                        have hus := HG.out.rows k _ hvk
                        obtain ⟨Ak, ck, hvs⟩ := hus.slice
                        rw [G_length] at hvs
                        rw [hvs] at hc'
                        by_cases hlt2 : m < (f k).length
                        · have hd2 : decide ((m : Int) < ((f k).length : Int)) = true := decide_eq_true (by omega)
                          obtain ⟨gk, ck', he, hbg, hck⟩ := hus.form (by rw [G_length]; omega)
                          rw [G_length, hvs] at he
                          injection he with he1 _ he3
                          subst he1 he3
                          rw [hvs] at hus
                          obtain ⟨hx0, hf0⟩ := hus.cell m (by rw [G_length]; exact hlt2)
                          rw [G_get f k m hlt2] at hx0
                          unfold b2 at hx0
                          have hq : ((2 * (k : Int)) % 256 != (2 * (k : Int)) % 256) = false := by simp
                          clear hus
                          go_wp2_with fail
                          go_roundw
                          case rel => exact ⟨m + 1, by omega, by go_num, HG⟩
                          case measure => simp [intOf]; omega
                        · have hd2 : decide ((m : Int) < ((f k).length : Int)) = false := decide_eq_false (by omega)
                          obtain rfl : m = (f k).length := by omega
                          clear hus
                          go_wp2_with fail
                          go_roundw
                          case rel => exact ⟨k + 1, by omega, by go_num, HG⟩
                          case measure => simp [intOf]; omega
                · have hd : decide ((k : Int) < (vs.length : Int)) = false := decide_eq_false (by omega)
                  go_wp2_with fail
                  go_ret
                  exact ⟨rfl, HG.out.below, HG.out.kept⟩
theorem own_calls (w : World) (b g c : Nat) (A : Option Addr) (vs : List Value) (f : Nat → List Int) (hr : Rows w b vs f) (ha : Apart vs g) (hl : ListAt w A g vs) (hb : b ≤ w.heap.size) (hn : vs.length * 24 ≤ 140737488355328) (hf : ∀ i, (f i).length ≤ 140737488355300) :
    Calls Try.prog 17 #[.slice A vs.length c] w fun e w' => e = .returned (.bool true) ∧ Below b w w' :=
  (own_keeps w b g c A vs f hr ha hl hb hn hf).mono fun _ _ h => ⟨h.1, h.2.1⟩

end Go.Proofs.Ytbhlalnpefijkaa.XC
