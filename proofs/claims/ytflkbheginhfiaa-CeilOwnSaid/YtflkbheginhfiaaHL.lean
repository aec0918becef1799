/- rows of numbers that are each their own: what is kept while they are written over and grown; grown (function 26). -/
import Derived.Test.YtflkbheginhfiaaHC
import Derived.Test.YtflkbheginhfiaaHG
import Derived.Test.YtflkbheginhfiaaHK
namespace Go.Proofs.Ytflkbheginhfiaa.XA
set_option linter.unusedVariables false
set_option linter.unusedSimpArgs false
open Go.RowKit Go.WideMaps Go.Maps Go.Proofs.YtflkbheginhfiaaW.PrintWords Go.Proofs.YtflkbheginhfiaaW.PrintLast Go.Proofs.YtflkbheginhfiaaW.PrintMore
/-- an append, and what lies ahead in the same block -/
theorem run_append_keep {P : Program} (w : World) (base : Nat) (t ty e : TypeId) (i : TypeInfo) (z : Value) (size bytes : Nat) (ht : P.underlying t = some (.slice e)) (hi : P.info? e = some i) (hz : i.zero = some z)
    (hsize : i.size = size) (hby : i.bytes = bytes) (hzs : z.cells.size = size) (hsz : 0 < size)
    (v : Value) (n : Nat) (xs : List Value) (hown : w.ownsRow base e size v n xs)
    (a : Addr) (m c : Nat) (news : List Value) (hl : news.length = m * size) (hnews : ∀ j u, news[j]? = some u → w.cell? (a.add j) = some u) (h1 : ∀ u ∈ news, u.oneCell' = true) (hm : 0 < m)
    (h63 : n + m ≤ maxLen) (hbytes : (n + m) * bytes ≤ 140737488355328) (hbase : base ≤ w.heap.size) :
    ∃ v' w', (Builtin.append_ #[t, t] ty #[v, .slice (some a) m c]).run P w = .ok v' w' ∧ w'.ownsRow base e size v' (n + m) (xs ++ news) ∧ w.grownBy w' v.ownBlock ∧ (v'.ownBlock = v.ownBlock ∨ v'.ownBlock = some w.heap.size) ∧
      ∀ base0 v0 n0 xs0, w.ownsRow base0 e size v0 n0 xs0 → v0.ownBlock = v.ownBlock → n0 ≤ n → w'.ownsRow base0 e size v0 n0 xs0 := by
  obtain ⟨v', w', hr, h2, h3, _, h5⟩ := run_append_own_at (P := P) w base t ty e i z size bytes ht hi hz hsize hby hzs hsz v n xs hown a m c news hl hnews h1 h63 hbytes hbase
  refine ⟨v', w', hr, h2, h3, h5, ?_⟩
  intro base0 v0 n0 xs0 h0 hb0 hn0
  have hsmall : n + m ≤ 9223372036854775807 := by simp only [maxLen] at h63; omega
  subst hsize
  subst hby
  rcases hown.2 with ⟨rfl, rfl⟩ | ⟨g, cap, cur, rfl, hbg, hg, hnc, hcm, hcs, htake⟩
  · rcases h0.2 with h | ⟨g0, _, _, rfl, _⟩
    · exact ⟨h0.1, .inl h⟩
    · simp [Value.ownBlock] at hb0
  · rcases h0.2 with h | ⟨g0, cap0, cur0, rfl, hbg0, hg0, hnc0, hcm0, hcs0, htake0⟩
    · exact ⟨h0.1, .inl h⟩
    · obtain rfl : g0 = g := by simpa [Value.ownBlock] using hb0
      obtain rfl : cur0 = cur := by rw [hg0] at hg; injection hg with hg; injection hg
      by_cases hroom : n + m ≤ cap
      · have hfit : n * i.size + news.length ≤ cur0.size := by rw [hl, hcs, ← Nat.add_mul]; exact Nat.mul_le_mul_right _ hroom
        have hr2 := run_append_room (P := P) w t ty e i ht hi g0 n cap cur0 hg a m c news hl hnews h1 hroom hfit
        rw [hr2] at hr
        injection hr with _ hw
        subst hw
        refine ⟨h0.1, .inr ⟨g0, cap0, _, rfl, hbg0, setRow_heap w g0 cur0 _ e _ hg, hnc0, hcm0, ?_, ?_⟩⟩
        · simp only [List.size_toArray, List.length_append, List.length_take, List.length_drop, Array.length_toList]
          omega
        · have hle : n0 * i.size ≤ n * i.size := Nat.mul_le_mul_right _ hn0
          rw [← htake0, List.append_assoc, List.take_append_of_le_length (by rw [List.length_take, Array.length_toList]; omega), List.take_take, Nat.min_eq_left hle]
      · have holds : ∀ j u, xs[j]? = some u → w.cell? ((⟨g0, 0, none⟩ : Addr).add j) = some u := hown.cells (g := g0) rfl
        have hr2 := run_append_grow (P := P) w t ty e i z ht hi hz ⟨g0, 0, none⟩ n cap xs hown.1 holds a m c news hl hnews (by omega) (by omega) (growslice_fits (by omega) hbytes)
        rw [hr2] at hr
        injection hr with _ hw
        subst hw
        exact ⟨h0.1, .inr ⟨g0, cap0, cur0, rfl, hbg0, (heap_alloc_old w.drew _ (blk_lt hg)).trans hg, hnc0, hcm0, hcs0, htake0⟩⟩

/-! ### a family of rows of numbers -/
/-- an own row of numbers -/
def US (w : World) (b : Nat) (v : Value) (xs : List Int) : Prop := w.ownsRow b 3 1 v xs.length (encs (Value.int .i64) xs)
theorem US.of {w : World} {b : Nat} {ok : Nat → Prop} {v : Value} {xs : List Int} (h : (Kd.int .i64).R 3 w b ok v xs) : US w b v xs := Kd.own_of_R h
theorem US.move {w w1 : World} {b : Nat} {v : Value} {xs : List Int} (h : US w b v xs) (hm : ∀ k, v.ownBlock = some k → w1.heap[k]? = w.heap[k]?) : US w1 b v xs := own_move h hm
theorem US.lt {w : World} {b : Nat} {v : Value} {xs : List Int} (h : US w b v xs) (k : Nat) (hk : v.ownBlock = some k) : k < w.heap.size := by
  obtain ⟨_, hc⟩ := own_typed h k hk
  exact blk_lt hc
theorem US.lower {w : World} {b b1 : Nat} {v : Value} {xs : List Int} (h : US w b v xs) (hb : b1 ≤ b) : US w b1 v xs := own_weaken h hb
theorem US.grown {w w1 : World} {b : Nat} {v : Value} {xs : List Int} {row : Option Nat} (h : US w b v xs) (hg : w.grownBy w1 row) (hne : v.ownBlock = none ∨ v.ownBlock ≠ row) : US w1 b v xs :=
  h.move fun k hk => hg.block k (h.lt k hk) (fun e => by rcases hne with hne | hne; · rw [hne] at hk; cases hk
                                                         · exact hne (hk.trans e))
theorem US.below {w w1 : World} {b : Nat} {v : Value} {xs : List Int} (h : US w b v xs) (hb : Below w.heap.size w w1) : US w1 b v xs := h.move fun k hk => hb.block k (h.lt k hk)
theorem US.form {w : World} {b : Nat} {v : Value} {xs : List Int} (h : US w b v xs) (hp : 0 < xs.length) : ∃ g c, v = .slice (some ⟨g, 0, none⟩) xs.length c ∧ b ≤ g ∧ xs.length ≤ c := by
  rcases h.2 with ⟨_, h0⟩ | ⟨g, cap, cur, rfl, hb, _, hc, _⟩
  · omega
  · exact ⟨g, cap, rfl, hb, hc⟩
theorem US.slice {w : World} {b : Nat} {v : Value} {xs : List Int} (h : US w b v xs) : ∃ A c, v = .slice A xs.length c := by
  rcases h.2 with ⟨h1, h0⟩ | ⟨g, cap, cur, rfl, hb, _, hc, _⟩
  · exact ⟨none, 0, by rw [h1, h0]⟩
  · exact ⟨_, _, rfl⟩
theorem US.cell {w : World} {b g c : Nat} {n : Nat} {xs : List Int} (h : US w b (.slice (some ⟨g, 0, none⟩) n c) xs) (k : Nat) (hk : k < xs.length) : w.cell? ⟨g, k, none⟩ = some (.int .i64 (xs.getD k 0)) ∧ w.frozen? ⟨g, k, none⟩ = false := by
  have hn : n = xs.length := by
    rcases h.2 with ⟨h1, _⟩ | ⟨_, _, _, h1, _⟩
    · injection h1 with h1; cases h1
    · injection h1
  subst hn
  have h2 := own_at_of (d := (0 : Int)) h (k : Int) (by omega) (by omega)
  rw [Int.toNat_natCast] at h2
  unfold rdOf at h2
  rw [Int.toNat_natCast] at h2
  exact h2
theorem US.put {w : World} {b g c : Nat} {n : Nat} {xs : List Int} (h : US w b (.slice (some ⟨g, 0, none⟩) n c) xs) (k : Nat) (x : Int) : US (w.setCell ⟨g, k, none⟩ (.int .i64 x)) b (.slice (some ⟨g, 0, none⟩) n c) (xs.set k x) ∧ w.grownBy (w.setCell ⟨g, k, none⟩ (.int .i64 x)) (some g) := by
  have hn : n = xs.length := by
    rcases h.2 with ⟨h1, _⟩ | ⟨_, _, _, h1, _⟩
    · injection h1 with h1; cases h1
    · injection h1
  subst hn
  obtain ⟨h2, h3⟩ := own_store_of h (k : Int) x
  rw [Int.toNat_natCast] at h2 h3
  refine ⟨?_, h3⟩
  unfold US
  rw [List.length_set]
  exact h2
/-- the rows of a list -/
def Fam (w : World) (b : Nat) (vs : List Value) (f : Nat → List Int) : Prop := ∀ (i : Nat) (v : Value), vs[i]? = some v → US w b v (f i)
structure Apart (vs : List Value) (g : Nat) : Prop where
  own : ∀ (i j : Nat) (v u : Value), vs[i]? = some v → vs[j]? = some u → i ≠ j → v.ownBlock = none ∨ v.ownBlock ≠ u.ownBlock
  list : ∀ (i : Nat) (v : Value), vs[i]? = some v → v.ownBlock ≠ some g
def ListAt (w : World) (A : Option Addr) (g : Nat) (vs : List Value) : Prop := ∀ (i : Nat) (v : Value), vs[i]? = some v → ∃ ad, A = some ad ∧ (ad.add i).block = g ∧ w.cell? (ad.add i) = some v
theorem ListAt.move {w w1 : World} {A : Option Addr} {g : Nat} {vs : List Value} (h : ListAt w A g vs) (hm : g < w.heap.size → w1.heap[g]? = w.heap[g]?) : ListAt w1 A g vs := by
  intro i v hv
  obtain ⟨ad, h1, h2, h3⟩ := h i v hv
  refine ⟨ad, h1, h2, ?_⟩
  have hlt : g < w.heap.size := by rw [← h2]; exact World.block_lt_of_cell? w _ h3
  rw [World.cell?_of_block (w := w) (by rw [h2]; exact hm hlt)]
  exact h3
theorem Fam.put {w w1 : World} {b g : Nat} {vs : List Value} {f f1 : Nat → List Int} (h : Fam w b vs f) (ha : Apart vs g) (k : Nat) (v : Value) (hk : vs[k]? = some v) (hv : US w1 b v (f1 k)) (hg : w.grownBy w1 v.ownBlock) (hf : ∀ j, j ≠ k → f1 j = f j) : Fam w1 b vs f1 := by
  intro i u hu
  by_cases e : i = k
  · subst e
    rw [hk] at hu
    injection hu with hu
    subst hu
    exact hv
  · rw [hf i e]
    exact (h i u hu).grown hg (ha.own i k u v hu hk e)
theorem ListAt.grown {w w1 : World} {A : Option Addr} {g : Nat} {vs : List Value} (h : ListAt w A g vs) (ha : Apart vs g) (k : Nat) (v : Value) (hk : vs[k]? = some v) (hg : w.grownBy w1 v.ownBlock) : ListAt w1 A g vs :=
  h.move fun hlt => hg.block g hlt (fun e => ha.list k v hk e.symm)

/-- the numbers that are written over the i-th row -/
def m2 (i k : Nat) : Int := 1000 * (i : Int) + (k : Int)
def G (f : Nat → List Int) (i : Nat) : List Int := (List.range (f i).length).map (m2 i)
def mix (f : Nat → List Int) (i m : Nat) : List Int := (G f i).take m ++ (f i).drop m
theorem G_length (f : Nat → List Int) (i : Nat) : (G f i).length = (f i).length := by simp [G]
theorem G_get (f : Nat → List Int) (i m : Nat) (h : m < (f i).length) : (G f i).getD m 0 = m2 i m := by
  unfold G
  rw [List.getD_eq_getElem?_getD, List.getElem?_map, List.getElem?_range h]
  rfl
theorem mix_length (f : Nat → List Int) (i m : Nat) (h : m ≤ (f i).length) : (mix f i m).length = (f i).length := by
  unfold mix
  rw [List.length_append, List.length_take, List.length_drop, G_length]
  omega
theorem mix_succ (f : Nat → List Int) (i m : Nat) (h : m < (f i).length) : (mix f i m).set m (m2 i m) = mix f i (m + 1) := by
  unfold mix
  have hg : m < (G f i).length := by rw [G_length]; exact h
  rw [List.set_append_right _ _ (by rw [List.length_take]; omega), List.length_take, Nat.min_eq_left (Nat.le_of_lt hg), Nat.sub_self, List.drop_eq_getElem_cons h, List.set_cons_zero, List.take_succ_eq_append_getElem hg, List.append_assoc]
  have := G_get f i m h
  rw [List.getD_eq_getElem?_getD, List.getElem?_eq_getElem hg] at this
  simp only [Option.getD_some] at this
  rw [this]
  rfl
theorem mix_all (f : Nat → List Int) (i : Nat) : mix f i (f i).length = G f i := by
  unfold mix
  rw [List.drop_length, List.append_nil, List.take_of_length_le (by rw [G_length]; exact Nat.le_refl _)]
theorem mix_none (f : Nat → List Int) (i : Nat) : mix f i 0 = f i := by simp [mix]

/-- a number that is appended, and what lies ahead in the same block -/
theorem app_keep {ops : Array Oper} {rest : List Oper} {o : Oper} {a : Act} {Q : Exit → Act → World → Prop} (W : World) (b : Nat) (hgd : o.guard = none) (s x : Operand) (ho : o.op = .call { callee := .builtin .append, args := #[s, x], argTypes := #[39, 39] })
    (v : Value) (xs : List Int) (y : Int) (hs : a.eval s = v) (hx : a.eval x = .slice (some ⟨W.heap.size, 0, none⟩) 1 1) (HO : US W b v xs) (hb : b ≤ W.heap.size) (hl : (xs.length + 1) * 8 ≤ 140737488355328)
    (h : ∀ v1 w1, US w1 b v1 (xs ++ [y]) → W.grownBy w1 v.ownBlock → (v1.ownBlock = v.ownBlock ∨ ∃ q, v1.ownBlock = some q ∧ W.heap.size ≤ q) → (∀ b0 v0 xs0, US W b0 v0 xs0 → v0.ownBlock = v.ownBlock → xs0.length ≤ xs.length → US w1 b0 v0 xs0) → wpList Try.prog ops Q rest (a.put o.dst v1) w1) :
    wpList Try.prog ops Q (o :: rest) a (W.alloc (.cells #[.int .i64 y] 3)) := by
  obtain ⟨i0, hi, hzz⟩ := Option.map_eq_some_iff.1 info3
  simp only [Prod.mk.injEq] at hzz
  obtain ⟨hz0, hz1, hz2⟩ := hzz
  refine wpList_plain hgd fun K hK => ?_
  obtain ⟨v', w', hr, h2, h3, h4, h5⟩ := run_append_keep (P := Try.prog) (W.alloc (.cells #[.int .i64 y] 3)) b 39 o.type 3 i0 (.int .i64 0) 1 8 Try.underlying39 hi hz0 hz1 hz2 rfl (by omega) v xs.length (encs (Value.int .i64) xs) (World.ownsRow.alloc HO _)
    ⟨W.heap.size, 0, none⟩ 1 1 [.int .i64 y] rfl (World.news_of_block (cs := #[.int .i64 y]) (t := 3) (fr := (0, 0)) (heap_alloc_new W _)) (by simp [Value.oneCell']) (by omega) (by simp only [maxLen]; omega) (by omega) (by simp; omega)
  have e1 : US w' b v' (xs ++ [y]) := by
    unfold US
    have : encs (Value.int .i64) (xs ++ [y]) = encs (Value.int .i64) xs ++ [.int .i64 y] := by simp [encs]
    rw [this, List.length_append]
    exact h2
  unfold Oper.wp execOp
  simp only [ho, resolve, invoke, builtin, Sem.run_bind, Sem.run_pure, Result.andThen_ok, List.map_toArray, List.map_cons, List.map_nil, hs, hx, hr]
  refine hK _ _ (h v' w' e1 (World.grownBy.trans (World.grownBy_alloc W _ _) h3) ?_ ?_)
  · rcases h4 with h4 | h4
    · exact .inl h4
    · exact .inr ⟨_, h4, by simp⟩
  · intro b0 v0 xs0 h0 hv0 hl0
    exact h5 b0 v0 xs0.length _ (World.ownsRow.alloc h0 _) hv0 hl0

/-- the blocks of the rows -/
def Of (vs : List Value) (k : Nat) : Prop := ∃ v, v ∈ vs ∧ v.ownBlock = some k
/-- a row that grows: g so far, m numbers more than v had -/
structure Gr (w : World) (b : Nat) (v : Value) (xs : List Int) (y : Int) (u : Value) (m : Nat) (w1 : World) : Prop where
  row : US w1 b u (xs ++ List.replicate m y)
  grown : w.grownBy w1 v.ownBlock
  at_ : u.ownBlock = v.ownBlock ∨ ∃ q, u.ownBlock = some q ∧ w.heap.size ≤ q
  keep : ∀ b0 v0 xs0, US w b0 v0 xs0 → v0.ownBlock = v.ownBlock → xs0.length ≤ xs.length → US w1 b0 v0 xs0
theorem Gr.start {w : World} {b : Nat} {v : Value} {xs : List Int} {y : Int} (h : US w b v xs) : Gr w b v xs y v 0 w :=
  ⟨by simpa using h, ⟨rfl, rfl, rfl, Nat.le_refl _, fun _ _ _ => rfl⟩, .inl rfl, fun _ _ _ h _ _ => h⟩
theorem grown_then {a b c : World} {row row1 : Option Nat} (h : a.grownBy b row) (k : b.grownBy c row1) (hr : ∀ j, row1 = some j → a.heap.size ≤ j ∨ row = some j) : a.grownBy c row :=
  ⟨k.os.trans h.os, k.tape.trans h.tape, k.output.trans h.output, Nat.le_trans h.size k.size, fun i hi hne => (k.block i (Nat.lt_of_lt_of_le hi h.size) (fun e => by
    rcases hr i e.symm with h1 | h1
    · omega
    · exact hne h1.symm)).trans (h.block i hi hne)⟩
theorem Gr.step {w w1 w2 : World} {b : Nat} {v u u1 : Value} {xs : List Int} {y : Int} {m : Nat} (h : Gr w b v xs y u m w1) (hr : US w2 b u1 ((xs ++ List.replicate m y) ++ [y])) (hg : w1.grownBy w2 u.ownBlock) (hat : u1.ownBlock = u.ownBlock ∨ ∃ q, u1.ownBlock = some q ∧ w1.heap.size ≤ q) (hk : ∀ b0 v0 xs0, US w1 b0 v0 xs0 → v0.ownBlock = u.ownBlock → xs0.length ≤ (xs ++ List.replicate m y).length → US w2 b0 v0 xs0) : Gr w b v xs y u1 (m + 1) w2 where
  row := by rw [List.replicate_succ', ← List.append_assoc]; exact hr
  grown := grown_then h.grown hg fun j hj => by
    rcases h.at_ with e | ⟨q, e, hq⟩
    · exact .inr (e.symm.trans hj)
    · rw [e] at hj
      injection hj with hj
      exact .inl (by omega)
  at_ := by
    rcases hat with e | ⟨q, e, hq⟩
    · rw [e]; exact h.at_
    · exact .inr ⟨q, e, Nat.le_trans h.grown.size hq⟩
  keep := fun b0 v0 xs0 h0 hv hl => by
    have h1 := h.keep b0 v0 xs0 h0 hv hl
    rcases h.at_ with e | ⟨q, e, hq⟩
    · exact hk b0 v0 xs0 h1 (hv.trans e.symm) (by rw [List.length_append]; omega)
    · refine h1.grown hg ?_
      rcases hvo : v0.ownBlock with _ | q'
      · exact .inl rfl
      · right
        rw [e]
        intro e2
        injection e2 with e2
        have := h0.lt q' hvo
        omega
set_option maxRecDepth 1000000 in
set_option maxHeartbeats 4000000 in
theorem grown_calls (v : Value) (xs : List Int) (y : Int) (b : Nat) (w : World) (h : US w b v xs) (hb : b ≤ w.heap.size) (hl : xs.length ≤ 17592186044000) : Calls Try.prog 26 #[v, .int .i64 y] w fun e w' => e = .returned (.int .i64 ((xs.length + 40 : Nat) : Int)) ∧ w.grownBy w' v.ownBlock ∧ ∀ b0 v0 xs0, US w b0 v0 xs0 → v0.ownBlock = v.ownBlock → xs0.length ≤ xs.length → US w' b0 v0 xs0 := by
  have HG := Aside0.mk (Gr.start (y := y) h)
  clear h
  go_enter Try.func26, Try.ntmps26
  go_wp2_with fail
  go_loopw [5, 6] (fun u i wr => ∃ m : Nat, m ≤ 40 ∧ i = .int .i64 m ∧ Aside0 (Gr w b v xs y u m wr)) (fun _ i _ => 40 - (intOf i).toNat)
  case atStart => exact ⟨0, by omega, rfl, HG⟩
  case round =>
    clear HG
    obtain ⟨m, hm, rfl, HG⟩ := hrel
    by_cases hlt : m < 40
    · have hd : decide ((m : Int) < 40) = true := decide_eq_true (by omega)
      have hbs : b ≤ wr.heap.size := Nat.le_trans hb HG.out.grown.size
      have hxl : ((xs ++ List.replicate m y).length + 1) * 8 ≤ 140737488355328 := by simp; omega
      go_wp2_with ((with_reducible refine gate_builtin (b := .append) (xs := #[.tmp 12, .tmp 14]) rfl ?_); at_builtin; refine app_keep wr b rfl (.tmp 12) (.tmp 14) rfl _ (xs ++ List.replicate m y) y rfl rfl HG.out.row hbs hxl ?_; intro v1 w1 h1 hg1 hat hkp; have HX1 := Aside0.mk (HG.out.step h1 hg1 hat hkp); clear h1 hg1 hat hkp)
      go_roundw
      case rel => exact ⟨m + 1, by omega, by go_num, HX1⟩
      case measure => simp [intOf]; omega
    · have hd : decide ((m : Int) < 40) = false := decide_eq_false (by omega)
      obtain rfl : m = 40 := by omega
      obtain ⟨A, c, e⟩ := HG.out.row.slice
      rw [List.length_append, List.length_replicate] at e
      subst e
      go_wp2_with fail
      go_ret
      exact ⟨rfl, HG.out.grown, HG.out.keep⟩
end Go.Proofs.Ytflkbheginhfiaa.XA
/- the answers of Reckon, Group and Users as rows of the caller's own, with the blocks that they lie in. -/
namespace Go.Proofs.Ytflkbheginhfiaa.XA
set_option linter.unusedVariables false
set_option linter.unusedSimpArgs false
open Go.RowKit Go.WideMaps Go.Maps Go.Proofs.YtflkbheginhfiaaW.PrintWords Go.Proofs.YtflkbheginhfiaaW.PrintLast Go.Proofs.YtflkbheginhfiaaW.PrintMore
theorem alloc_size1 (w : World) (o : Obj) : (w.alloc o).heap.size = w.heap.size + 1 := by unfold World.alloc; exact Array.size_push _
/-- a row of the caller's own, whose blocks lie between two places -/
def Sp {α : Type} (d : Kd α) (e : Nat) (w : World) (b c : Nat) (v : Value) (xs : List α) : Prop := d.R e w b (fun k => b ≤ k ∧ k < c) v xs
section
variable {α : Type} {d : Kd α} {e : Nat} {w w1 : World} {b c : Nat} {ok : Nat → Prop} {v : Value} {xs : List α} {S : Nat → Prop}
theorem Sp.of (h : d.R e w b ok v xs) : Sp d e w b w.heap.size v xs := Kd.R_mono (Kd.R_bound h) (fun k hk => ⟨hk.2.1, hk.2.2.1⟩)
theorem Sp.below (h : Sp d e w b c v xs) (hB : Below w.heap.size w w1) : Sp d e w1 b c v xs := Kd.R_below h hB
theorem Sp.kept (h : Sp d e w b c v xs) (hk : Kept w w1 S) (hne : ∀ k, b ≤ k → k < c → ¬ S k) : Sp d e w1 b c v xs := Kd.R_kept h hk (fun k ho => hne k ho.1 ho.2)
theorem Sp.own (h : Sp d e w b c v xs) (k : Nat) (hk : v.ownBlock = some k) : b ≤ k ∧ k < c := h.1 k hk
end
/-- a row of numbers -/
def Sn (w : World) (b c : Nat) (v : Value) (xs : List Int) : Prop := Sp (Kd.int .i64) 3 w b c v xs
theorem Sn.rd {w : World} {b c : Nat} {v : Value} {xs : List Int} (h : Sn w b c v xs) : Rd w v xs := Kd.R_reads h
theorem Sn.us {w : World} {b c b1 : Nat} {v : Value} {xs : List Int} (h : Sn w b c v xs) (hb : b1 ≤ b) : US w b1 v xs := (US.of h).lower hb
theorem Sn.below {w w1 : World} {b c : Nat} {v : Value} {xs : List Int} (h : Sn w b c v xs) (hB : Below w.heap.size w w1) : Sn w1 b c v xs := Sp.below h hB
theorem Sn.kept {w w1 : World} {b c : Nat} {v : Value} {xs : List Int} {S : Nat → Prop} (h : Sn w b c v xs) (hk : Kept w w1 S) (hne : ∀ k, b ≤ k → k < c → ¬ S k) : Sn w1 b c v xs := Sp.kept h hk hne
/-- the four rows of an answer -/
structure Four (w : World) (b c : Nat) (v0 v2 v3 v4 : Value) (R : Ceil) : Prop where
  r0 : Sn w b c v0 R.l0
  r2 : Sn w b c v2 R.l2
  r3 : Sn w b c v3 R.l3
  r4 : Sn w b c v4 R.l4
theorem Four.below {w w1 : World} {b c : Nat} {v0 v2 v3 v4 : Value} {R : Ceil} (h : Four w b c v0 v2 v3 v4 R) (hB : Below w.heap.size w w1) : Four w1 b c v0 v2 v3 v4 R := ⟨h.r0.below hB, h.r2.below hB, h.r3.below hB, h.r4.below hB⟩
theorem Four.kept {w w1 : World} {b c : Nat} {v0 v2 v3 v4 : Value} {R : Ceil} {S : Nat → Prop} (h : Four w b c v0 v2 v3 v4 R) (hk : Kept w w1 S) (hne : ∀ k, b ≤ k → k < c → ¬ S k) : Four w1 b c v0 v2 v3 v4 R := ⟨h.r0.kept hk hne, h.r2.kept hk hne, h.r3.kept hk hne, h.r4.kept hk hne⟩
/-- two rows that share no block -/
def Off (v u : Value) : Prop := ∀ g, v.ownBlock = some g → u.ownBlock ≠ some g
structure Off4 (v0 v2 v3 v4 : Value) : Prop where
  a02 : Off v0 v2
  a03 : Off v0 v3
  a04 : Off v0 v4
  a23 : Off v2 v3
  a24 : Off v2 v4
  a34 : Off v3 v4
theorem reckonV_len (ts : List S64) (rs : List S73) (is : List S66) (b : Bool) : (reckonV ts rs is b).l0.length ≤ rs.length ∧ (reckonV ts rs is b).l2.length ≤ ts.length ∧ (reckonV ts rs is b).l3.length ≤ ts.length ∧ (reckonV ts rs is b).l4.length ≤ is.length := by
  unfold reckonV
  split
  · simp
  · simp only [ceils_len, runs_len, cnts_len, isrs_len]
    omega
theorem groupV_len (ts : List S64) (rs : List S73) (is : List S66) (r : Int) : (groupV ts rs is r).1.length ≤ rs.length := by
  unfold groupV
  split
  · simp
  · split
    · simp
    · exact group_len _ _ _
theorem usersV_len (ts : List S64) (rs : List S73) (is : List S66) (r : Int) : (usersV ts rs is r).1.length ≤ ts.length ∧ (usersV ts rs is r).2.1.length ≤ is.length := by
  unfold usersV
  split
  · simp
  · split
    · simp
    · exact ⟨tu_len _ _ _ _, iu_len _ _ _ _⟩
section
variable (x : CV) (AT : Option Addr) (cT : Nat) (AR : Option Addr) (cR : Nat) (AI : Option Addr) (cI : Nat) (ts : List S64) (rs : List S73) (is : List S66)
theorem reckon_f (w : World) (g : Good AT cT AR cR AI cI ts rs is w) : Calls Try.prog 12 #[.agg #[.string x.s0, .string x.s1, .bool x.b2, .bool x.b3, .bool x.b4, .bool x.b5, .bool x.b6, .bool x.b7, .bool x.b8, .bool x.b9, .slice x.A10 x.n10 x.c10, .slice AT ts.length cT, .slice AR rs.length cR, .slice x.A13 x.n13 x.c13, .slice x.A14 x.n14 x.c14, .slice x.A15 x.n15 x.c15, .slice AI is.length cI, .slice x.A17 x.n17 x.c17]] w fun e w' => ∃ v0 v2 v3 v4, e = .returned (.tuple #[.agg #[v0, .int .i64 (reckonV ts rs is x.b9).s, v2, v3, v4], .int .i64 (reckonV ts rs is x.b9).er]) ∧ Four w' w.heap.size w'.heap.size v0 v2 v3 v4 (reckonV ts rs is x.b9) ∧ Off4 v0 v2 v3 v4 ∧ Below w.heap.size w w' := by
  refine (reckon_calls x AT cT AR cR AI cI ts rs is w g.cfg g.r g.t g.i).mono ?_
  rintro e w' ⟨hb, V, sch, L, er, rfl, hr, h⟩
  rw [← reckon_v h]
  exact ⟨V 0, V 2, V 3, V 4, rfl, ⟨Sp.of (hr.row 0 (.inl rfl)), Sp.of (hr.row 2 (.inr (.inl rfl))), Sp.of (hr.row 3 (.inr (.inr (.inl rfl)))), Sp.of (hr.row 4 (.inr (.inr (.inr rfl))))⟩, ⟨hr.ne 0 2 (.inl rfl) (.inr (.inl rfl)) (by omega), hr.ne 0 3 (.inl rfl) (.inr (.inr (.inl rfl))) (by omega), hr.ne 0 4 (.inl rfl) (.inr (.inr (.inr rfl))) (by omega), hr.ne 2 3 (.inr (.inl rfl)) (.inr (.inr (.inl rfl))) (by omega), hr.ne 2 4 (.inr (.inl rfl)) (.inr (.inr (.inr rfl))) (by omega), hr.ne 3 4 (.inr (.inr (.inl rfl))) (.inr (.inr (.inr rfl))) (by omega)⟩, hb⟩
theorem reckonr_f (w : World) (g : Good AT cT AR cR AI cI ts rs is w) : Calls Try.prog 13 #[.agg #[.string x.s0, .string x.s1, .bool x.b2, .bool x.b3, .bool x.b4, .bool x.b5, .bool x.b6, .bool x.b7, .bool x.b8, .bool x.b9, .slice x.A10 x.n10 x.c10, .slice AT ts.length cT, .slice AR rs.length cR, .slice x.A13 x.n13 x.c13, .slice x.A14 x.n14 x.c14, .slice x.A15 x.n15 x.c15, .slice AI is.length cI, .slice x.A17 x.n17 x.c17]] w fun e w' => ∃ v0 v2 v3 v4, e = .returned (.tuple #[.agg #[v0, .int .i64 (reckonV ts rs is x.b9).s, v2, v3, v4], .int .i64 (reckonV ts rs is x.b9).er]) ∧ Four w' w.heap.size w'.heap.size v0 v2 v3 v4 (reckonV ts rs is x.b9) ∧ Below w.heap.size w w' := by
  refine (reckonR_calls x AT cT AR cR AI cI ts rs is w g.cfg g.r g.t g.i).mono ?_
  rintro e w' ⟨hb, V, sch, L, er, rfl, hr, h⟩
  rw [← reckon_v h]
  exact ⟨V 0, V 2, V 3, V 4, rfl, ⟨Sp.of (hr.row 0 (.inl rfl)), Sp.of (hr.row 2 (.inr (.inl rfl))), Sp.of (hr.row 3 (.inr (.inr (.inl rfl)))), Sp.of (hr.row 4 (.inr (.inr (.inr rfl))))⟩, hb⟩
theorem group_f (r : Int) (w : World) (g : Good AT cT AR cR AI cI ts rs is w) : Calls Try.prog 18 #[.agg #[.string x.s0, .string x.s1, .bool x.b2, .bool x.b3, .bool x.b4, .bool x.b5, .bool x.b6, .bool x.b7, .bool x.b8, .bool x.b9, .slice x.A10 x.n10 x.c10, .slice AT ts.length cT, .slice AR rs.length cR, .slice x.A13 x.n13 x.c13, .slice x.A14 x.n14 x.c14, .slice x.A15 x.n15 x.c15, .slice AI is.length cI, .slice x.A17 x.n17 x.c17], .int .i64 r] w fun e w' => ∃ v, e = .returned (.tuple #[v, .int .i64 (groupV ts rs is r).2]) ∧ Sn w' w.heap.size w'.heap.size v (groupV ts rs is r).1 ∧ Below w.heap.size w w' := by
  refine (group_calls x AT cT AR cR AI cI ts rs is r w g.cfg g.r g.t g.i).mono ?_
  rintro e w' ⟨hb, v, gl, er, rfl, hr, h⟩
  rw [← group_v h]
  exact ⟨v, rfl, Sp.of hr, hb⟩
theorem groupr_f (r : Int) (w : World) (g : Good AT cT AR cR AI cI ts rs is w) : Calls Try.prog 19 #[.agg #[.string x.s0, .string x.s1, .bool x.b2, .bool x.b3, .bool x.b4, .bool x.b5, .bool x.b6, .bool x.b7, .bool x.b8, .bool x.b9, .slice x.A10 x.n10 x.c10, .slice AT ts.length cT, .slice AR rs.length cR, .slice x.A13 x.n13 x.c13, .slice x.A14 x.n14 x.c14, .slice x.A15 x.n15 x.c15, .slice AI is.length cI, .slice x.A17 x.n17 x.c17], .int .i64 r] w fun e w' => ∃ v, e = .returned (.tuple #[v, .int .i64 (groupV ts rs is r).2]) ∧ Sn w' w.heap.size w'.heap.size v (groupV ts rs is r).1 ∧ Below w.heap.size w w' := by
  refine (groupR_calls x AT cT AR cR AI cI ts rs is r w g.cfg g.r g.t g.i).mono ?_
  rintro e w' ⟨hb, v, gl, er, rfl, hr, h⟩
  rw [← group_v h]
  exact ⟨v, rfl, Sp.of hr, hb⟩
theorem users_f (r : Int) (w : World) (g : Good AT cT AR cR AI cI ts rs is w) : Calls Try.prog 21 #[.agg #[.string x.s0, .string x.s1, .bool x.b2, .bool x.b3, .bool x.b4, .bool x.b5, .bool x.b6, .bool x.b7, .bool x.b8, .bool x.b9, .slice x.A10 x.n10 x.c10, .slice AT ts.length cT, .slice AR rs.length cR, .slice x.A13 x.n13 x.c13, .slice x.A14 x.n14 x.c14, .slice x.A15 x.n15 x.c15, .slice AI is.length cI, .slice x.A17 x.n17 x.c17], .int .i64 r] w fun e w' => ∃ v u, e = .returned (.tuple #[v, u, .int .i64 (usersV ts rs is r).2.2]) ∧ Sn w' w.heap.size w'.heap.size v (usersV ts rs is r).1 ∧ Sn w' w.heap.size w'.heap.size u (usersV ts rs is r).2.1 ∧ Off v u ∧ Below w.heap.size w w' := by
  refine (users_calls x AT cT AR cR AI cI ts rs is r w g.cfg g.r g.t g.i).mono ?_
  rintro e w' ⟨hb, v, u, tl, il, er, rfl, hr, hr2, ho, h⟩
  rw [← users_v h]
  exact ⟨v, u, rfl, Sp.of hr, Sp.of hr2, ho, hb⟩
end
/-- the seven rows that are answered, and where they lie -/
structure Seven (w : World) (s0 s1 s2 s3 s4 s5 : Nat) (v0 v2 v3 v4 va vt vu : Value) (R : Ceil) (la lt lu : List Int) : Prop where
  four : Four w s0 s1 v0 v2 v3 v4 R
  off : Off4 v0 v2 v3 v4
  a : Sn w s2 s3 va la
  t : Sn w s4 s5 vt lt
  u : Sn w s4 s5 vu lu
  tu : Off vt vu
  le : s1 ≤ s2 ∧ s3 ≤ s4 ∧ s0 ≤ s1 ∧ s2 ≤ s3
theorem Off.of {w : World} {b c b1 c1 : Nat} {v u : Value} {xs ys : List Int} (h : Sn w b c v xs) (h1 : Sn w b1 c1 u ys) (hl : c ≤ b1 ∨ c1 ≤ b) : Off v u := fun g e e1 => by
  have := Sp.own h g e
  have := Sp.own h1 g e1
  omega
theorem Off.symm {v u : Value} (h : Off v u) : Off u v := fun g e e1 => h g e1 e
theorem Off.ne {v u : Value} (h : Off v u) : v.ownBlock = none ∨ v.ownBlock ≠ u.ownBlock := by
  rcases e : v.ownBlock with _ | k
  · exact .inl rfl
  · exact .inr (fun e1 => h k e e1.symm)
def sevenL (R : Ceil) (la lt lu : List Int) (i : Nat) : List Int := [R.l0, R.l2, R.l3, R.l4, la, lt, lu].getD i []
section
variable {w : World} {s0 s1 s2 s3 s4 s5 : Nat} {v0 v2 v3 v4 va vt vu : Value} {R : Ceil} {la lt lu : List Int}
theorem Seven.fam (h : Seven w s0 s1 s2 s3 s4 s5 v0 v2 v3 v4 va vt vu R la lt lu) : Fam w s0 [v0, v2, v3, v4, va, vt, vu] (sevenL R la lt lu) := by
  have hle := h.le
  intro i v hv
  have hi : i < 7 := (List.getElem?_eq_some_iff.mp hv).1
  obtain rfl | rfl | rfl | rfl | rfl | rfl | rfl : i = 0 ∨ i = 1 ∨ i = 2 ∨ i = 3 ∨ i = 4 ∨ i = 5 ∨ i = 6 := by omega
  all_goals injection hv with hv; subst hv
  · exact h.four.r0.us (Nat.le_refl _)
  · exact h.four.r2.us (Nat.le_refl _)
  · exact h.four.r3.us (Nat.le_refl _)
  · exact h.four.r4.us (Nat.le_refl _)
  · exact h.a.us (by omega)
  · exact h.t.us (by omega)
  · exact h.u.us (by omega)
theorem Seven.span (h : Seven w s0 s1 s2 s3 s4 s5 v0 v2 v3 v4 va vt vu R la lt lu) (k : Nat) (hk : Of [v0, v2, v3, v4, va, vt, vu] k) : s0 ≤ k ∧ k < s1 ∨ s2 ≤ k ∧ k < s3 ∨ s4 ≤ k ∧ k < s5 := by
  obtain ⟨v, hv, e⟩ := hk
  simp only [List.mem_cons, List.not_mem_nil, or_false] at hv
  rcases hv with rfl | rfl | rfl | rfl | rfl | rfl | rfl
  · exact .inl (Sp.own h.four.r0 k e)
  · exact .inl (Sp.own h.four.r2 k e)
  · exact .inl (Sp.own h.four.r3 k e)
  · exact .inl (Sp.own h.four.r4 k e)
  · exact .inr (.inl (Sp.own h.a k e))
  · exact .inr (.inr (Sp.own h.t k e))
  · exact .inr (.inr (Sp.own h.u k e))
theorem Seven.apart (h : Seven w s0 s1 s2 s3 s4 s5 v0 v2 v3 v4 va vt vu R la lt lu) (g : Nat) (hg : s5 ≤ g) (hs : s4 ≤ s5) : Apart [v0, v2, v3, v4, va, vt, vu] g := by
  have hle := h.le
  have b0 : Off v0 va := Off.of h.four.r0 h.a (.inl (by omega))
  have b2 : Off v2 va := Off.of h.four.r2 h.a (.inl (by omega))
  have b3 : Off v3 va := Off.of h.four.r3 h.a (.inl (by omega))
  have b4 : Off v4 va := Off.of h.four.r4 h.a (.inl (by omega))
  have c0 : Off v0 vt := Off.of h.four.r0 h.t (.inl (by omega))
  have c2 : Off v2 vt := Off.of h.four.r2 h.t (.inl (by omega))
  have c3 : Off v3 vt := Off.of h.four.r3 h.t (.inl (by omega))
  have c4 : Off v4 vt := Off.of h.four.r4 h.t (.inl (by omega))
  have ca : Off va vt := Off.of h.a h.t (.inl (by omega))
  have d0 : Off v0 vu := Off.of h.four.r0 h.u (.inl (by omega))
  have d2 : Off v2 vu := Off.of h.four.r2 h.u (.inl (by omega))
  have d3 : Off v3 vu := Off.of h.four.r3 h.u (.inl (by omega))
  have d4 : Off v4 vu := Off.of h.four.r4 h.u (.inl (by omega))
  have da : Off va vu := Off.of h.a h.u (.inl (by omega))
  have e1 := h.off.a02
  have e2 := h.off.a03
  have e3 := h.off.a04
  have e4 := h.off.a23
  have e5 := h.off.a24
  have e6 := h.off.a34
  have e7 := h.tu
  refine ⟨?_, fun i v hv e => ?_⟩
  · intro i j v u hv hu hij
    have hi : i < 7 := (List.getElem?_eq_some_iff.mp hv).1
    have hj : j < 7 := (List.getElem?_eq_some_iff.mp hu).1
    obtain rfl | rfl | rfl | rfl | rfl | rfl | rfl : i = 0 ∨ i = 1 ∨ i = 2 ∨ i = 3 ∨ i = 4 ∨ i = 5 ∨ i = 6 := by omega
    all_goals
      injection hv with hv
      subst hv
      obtain rfl | rfl | rfl | rfl | rfl | rfl | rfl : j = 0 ∨ j = 1 ∨ j = 2 ∨ j = 3 ∨ j = 4 ∨ j = 5 ∨ j = 6 := by omega
      all_goals
        injection hu with hu
        subst hu
        first
          | exact absurd rfl hij
          | exact Off.ne (by assumption)
          | exact Off.ne (Off.symm (by assumption))
  · have := h.span g ⟨v, List.mem_of_getElem? hv, e⟩
    omega
theorem Seven.len (h : ∀ l, l ∈ [R.l0, R.l2, R.l3, R.l4, la, lt, lu] → l.length ≤ 4398046511104) (i : Nat) : (sevenL R la lt lu i).length ≤ 4398046511104 := by
  unfold sevenL
  rw [List.getD_eq_getElem?_getD]
  rcases e : [R.l0, R.l2, R.l3, R.l4, la, lt, lu][i]? with _ | l
  · simp
  · exact h l (List.mem_of_getElem? e)
end
theorem ListAt.made (w : World) (vs : List Value) (t : Nat) : ListAt (w.alloc (.cells vs.toArray t)) (some ⟨w.heap.size, 0, none⟩) w.heap.size vs := fun i v hv => by
  have h := heap_alloc_new w (.cells vs.toArray t)
  refine ⟨_, rfl, by unfold Addr.add; split <;> rfl, ?_⟩
  unfold Addr.add
  split
  · rename_i h0
    subst h0
    simp only [World.cell?, h]
    simpa using hv
  · simp only [World.cell?, h, Nat.zero_add]
    simpa using hv
/-- the lengths that grown answers, together -/
def sumL (f : Nat → List Int) : Nat → Nat
  | 0 => 0
  | k + 1 => sumL f k + ((f k).length + 40)
theorem sumL_le (f : Nat → List Int) (h : ∀ i, (f i).length ≤ 4398046511104) : ∀ k, sumL f k ≤ k * 4398046511144 ∧ 40 * k ≤ sumL f k
  | 0 => by simp [sumL]
  | k + 1 => by
    have := sumL_le f h k
    have := h k
    unfold sumL
    omega
end Go.Proofs.Ytflkbheginhfiaa.XA
/- CeilOwn: the walk. -/
namespace Go.Proofs.Ytflkbheginhfiaa.XA
set_option linter.unusedVariables false
set_option linter.unusedSimpArgs false
open Go.RowKit Go.WideMaps Go.Maps Go.Proofs.YtflkbheginhfiaaW.PrintWords Go.Proofs.YtflkbheginhfiaaW.PrintLast Go.Proofs.YtflkbheginhfiaaW.PrintMore
structure Tight (ts : List S64) (is : List S66) : Prop where
  tb : ts.length * 136 ≤ 140737488355328
  ib : is.length * 80 ≤ 140737488355328
  t : ∀ k, k < ts.length → (ts.getD k z64).f5.length ≤ 17592186044416
  i : ∀ k, k < is.length → (is.getD k z66).f3.length ≤ 17592186044416
theorem alike_pc (ts : List S64) (is : List S66) : Alike ts (ts.map cpT) is (is.map cpI) where
  lt := by rw [List.length_map]
  t := fun k _ => by rw [gT]; exact ⟨rfl, rfl, rfl⟩
  li := by rw [List.length_map]
  i := fun k _ => by rw [gI]; exact ⟨rfl, rfl⟩
set_option maxRecDepth 1000000 in
set_option maxHeartbeats 4000000 in
theorem own_calls (x : CV) (AT : Option Addr) (cT : Nat) (AR : Option Addr) (cR : Nat) (AI : Option Addr) (cI : Nat) (ts : List S64) (rs : List S73) (is : List S66) (r : Int) (w : World) (g : Good AT cT AR cR AI cI ts rs is w) (hz : Tight ts is) : Calls Try.prog 8 #[.agg #[.string x.s0, .string x.s1, .bool x.b2, .bool x.b3, .bool x.b4, .bool x.b5, .bool x.b6, .bool x.b7, .bool x.b8, .bool x.b9, .slice x.A10 x.n10 x.c10, .slice AT ts.length cT, .slice AR rs.length cR, .slice x.A13 x.n13 x.c13, .slice x.A14 x.n14 x.c14, .slice x.A15 x.n15 x.c15, .slice AI is.length cI, .slice x.A17 x.n17 x.c17], .int .i64 r] w fun e w' => e = .returned (.bool true) ∧ Below w.heap.size w w' := by
  have HI := Aside0.mk (in_made x AT cT AR cR AI cI ts rs is w g)
  have HG0 := Aside0.mk g
  have HZ := Aside0.mk hz
  have HS0 := Aside0.mk (show (w.alloc (.cells #[.string x.s0, .string x.s1, .bool x.b2, .bool x.b3, .bool x.b4, .bool x.b5, .bool x.b6, .bool x.b7, .bool x.b8, .bool x.b9, .slice x.A10 x.n10 x.c10, .slice AT ts.length cT, .slice AR rs.length cR, .slice x.A13 x.n13 x.c13, .slice x.A14 x.n14 x.c14, .slice x.A15 x.n15 x.c15, .slice AI is.length cI, .slice x.A17 x.n17 x.c17] 36)).heap.size = w.heap.size + 1 from alloc_size1 _ _)
  clear g hz
  go_enter Try.func8, Try.ntmps8
  go_wp2_with (first | ((with_reducible refine gate_dst (N := 29) rfl ?_); refine load36 HI.out.box rfl (.tmp 2) rfl rfl ?_))
  generalize w.alloc (.cells #[.string x.s0, .string x.s1, .bool x.b2, .bool x.b3, .bool x.b4, .bool x.b5, .bool x.b6, .bool x.b7, .bool x.b8, .bool x.b9, .slice x.A10 x.n10 x.c10, .slice AT ts.length cT, .slice AR rs.length cR, .slice x.A13 x.n13 x.c13, .slice x.A14 x.n14 x.c14, .slice x.A15 x.n15 x.c15, .slice AI is.length cI, .slice x.A17 x.n17 x.c17] 36) = w0 at *
  refine (reckon_f x AT cT AR cR AI cI ts rs is w0 HI.out.good).mono ?_
  rintro e w1 ⟨v0, v2, v3, v4, rfl, hf, of1, B⟩
  obtain ⟨R, hR⟩ : ∃ R, reckonV ts rs is x.b9 = R := ⟨_, rfl⟩
  have HRL := Aside0.mk (reckonV_len ts rs is x.b9)
  rw [hR] at hf HRL ⊢
  have HRE := Aside0.mk hR
  clear hR
  obtain ⟨A0, a0, e0⟩ := Kd.R_slice hf.r0
  subst e0
  obtain ⟨A2, a2, e2⟩ := Kd.R_slice hf.r2
  subst e2
  obtain ⟨A3, a3, e3⟩ := Kd.R_slice hf.r3
  subst e3
  obtain ⟨A4, a4, e4⟩ := Kd.R_slice hf.r4
  subst e4
  have HI_1 := Aside0.mk ((HI.out).below x AT cT AR cR AI cI ts rs is B)
  clear HI
  have HS1 := Aside0.mk B.size
  clear B
  have hbx : Below w1.heap.size w1 (w1.alloc (.cells #[.slice A0 R.l0.length a0, .int .i64 R.s, .slice A2 R.l2.length a2, .slice A3 R.l3.length a3, .slice A4 R.l4.length a4] 41)) := (Below.refl _ _).alloc (Nat.le_refl _) _
  have HI_2 := Aside0.mk ((HI_1.out).below x AT cT AR cR AI cI ts rs is hbx)
  clear HI_1
  have HX := Aside0.mk (hf.below hbx)
  have HP1 := Aside0.mk (heap_alloc_new w1 (.cells #[.slice A0 R.l0.length a0, .int .i64 R.s, .slice A2 R.l2.length a2, .slice A3 R.l3.length a3, .slice A4 R.l4.length a4] 41))
  have HOF1 := Aside0.mk of1
  clear of1
  have HT1 := Aside0.mk (show (w1.alloc (.cells #[.slice A0 R.l0.length a0, .int .i64 R.s, .slice A2 R.l2.length a2, .slice A3 R.l3.length a3, .slice A4 R.l4.length a4] 41)).heap.size = w1.heap.size + 1 from alloc_size1 _ _)
  clear hf hbx
  go_wp2_with (first | ((with_reducible refine gate_dst (N := 34) rfl ?_); refine load36 HI_2.out.box rfl (.tmp 2) rfl rfl ?_))
  generalize w1.alloc (.cells #[.slice A0 R.l0.length a0, .int .i64 R.s, .slice A2 R.l2.length a2, .slice A3 R.l3.length a3, .slice A4 R.l4.length a4] 41) = w1a at *
  generalize w1.heap.size = P1 at *
  refine (reckon_f x AT cT AR cR AI cI ts rs is w1a HI_2.out.good).mono ?_
  rintro e w2 ⟨v0, v2, v3, v4, rfl, hf, of2, B⟩
  rw [HRE.out] at hf ⊢
  obtain ⟨B0, b0, e0⟩ := Kd.R_slice hf.r0
  subst e0
  obtain ⟨B2, b2, e2⟩ := Kd.R_slice hf.r2
  subst e2
  obtain ⟨B3, b3, e3⟩ := Kd.R_slice hf.r3
  subst e3
  obtain ⟨B4, b4, e4⟩ := Kd.R_slice hf.r4
  subst e4
  have HI_3 := Aside0.mk ((HI_2.out).below x AT cT AR cR AI cI ts rs is B)
  clear HI_2
  have HX_3 := Aside0.mk ((HX.out).below B)
  clear HX
  have HP1_3 := Aside0.mk ((B.block _ (blk_lt HP1.out)).trans HP1.out)
  clear HP1
  have HS2 := Aside0.mk B.size
  clear B
  have hbx : Below w2.heap.size w2 (w2.alloc (.cells #[.slice B0 R.l0.length b0, .int .i64 R.s, .slice B2 R.l2.length b2, .slice B3 R.l3.length b3, .slice B4 R.l4.length b4] 41)) := (Below.refl _ _).alloc (Nat.le_refl _) _
  have HI_4 := Aside0.mk ((HI_3.out).below x AT cT AR cR AI cI ts rs is hbx)
  clear HI_3
  have HX_4 := Aside0.mk ((HX_3.out).below hbx)
  clear HX_3
  have HP1_4 := Aside0.mk ((hbx.block _ (blk_lt HP1_3.out)).trans HP1_3.out)
  clear HP1_3
  have HY := Aside0.mk (hf.below hbx)
  have HP2 := Aside0.mk (heap_alloc_new w2 (.cells #[.slice B0 R.l0.length b0, .int .i64 R.s, .slice B2 R.l2.length b2, .slice B3 R.l3.length b3, .slice B4 R.l4.length b4] 41))
  have HOF2 := Aside0.mk of2
  clear of2
  have HT2 := Aside0.mk (show (w2.alloc (.cells #[.slice B0 R.l0.length b0, .int .i64 R.s, .slice B2 R.l2.length b2, .slice B3 R.l3.length b3, .slice B4 R.l4.length b4] 41)).heap.size = w2.heap.size + 1 from alloc_size1 _ _)
  clear hf hbx
  go_wp2_with (first | ((with_reducible refine gate_dst (N := 39) rfl ?_); refine load36 HI_4.out.box rfl (.tmp 2) rfl rfl ?_))
  generalize w2.alloc (.cells #[.slice B0 R.l0.length b0, .int .i64 R.s, .slice B2 R.l2.length b2, .slice B3 R.l3.length b3, .slice B4 R.l4.length b4] 41) = w2a at *
  generalize w2.heap.size = P2 at *
  refine (group_f x AT cT AR cR AI cI ts rs is r w2a HI_4.out.good).mono ?_
  rintro e w3 ⟨v, rfl, hf, B⟩
  obtain ⟨q, hq⟩ : ∃ q, groupV ts rs is r = q := ⟨_, rfl⟩
  obtain ⟨la, ea⟩ := q
  have HGL := Aside0.mk (groupV_len ts rs is r)
  rw [hq] at hf HGL ⊢
  have HGE := Aside0.mk hq
  clear hq
  dsimp only at hf ⊢
  obtain ⟨GA, ga, e0⟩ := Kd.R_slice hf
  subst e0
  have HI_5 := Aside0.mk ((HI_4.out).below x AT cT AR cR AI cI ts rs is B)
  clear HI_4
  have HX_5 := Aside0.mk ((HX_4.out).below B)
  clear HX_4
  have HP1_5 := Aside0.mk ((B.block _ (blk_lt HP1_4.out)).trans HP1_4.out)
  clear HP1_4
  have HY_5 := Aside0.mk ((HY.out).below B)
  clear HY
  have HP2_5 := Aside0.mk ((B.block _ (blk_lt HP2.out)).trans HP2.out)
  clear HP2
  have HA := Aside0.mk (hf)
  have HS3 := Aside0.mk B.size
  clear B hf
  go_wp2_with (first | ((with_reducible refine gate_dst (N := 45) rfl ?_); refine load36 HI_5.out.box rfl (.tmp 2) rfl rfl ?_))
  refine (group_f x AT cT AR cR AI cI ts rs is r w3 HI_5.out.good).mono ?_
  rintro e w4 ⟨v, rfl, hf, B⟩
  rw [HGE.out] at hf ⊢
  dsimp only at hf ⊢
  obtain ⟨H, h, e0⟩ := Kd.R_slice hf
  subst e0
  have HI_6 := Aside0.mk ((HI_5.out).below x AT cT AR cR AI cI ts rs is B)
  clear HI_5
  have HX_6 := Aside0.mk ((HX_5.out).below B)
  clear HX_5
  have HP1_6 := Aside0.mk ((B.block _ (blk_lt HP1_5.out)).trans HP1_5.out)
  clear HP1_5
  have HY_6 := Aside0.mk ((HY_5.out).below B)
  clear HY_5
  have HP2_6 := Aside0.mk ((B.block _ (blk_lt HP2_5.out)).trans HP2_5.out)
  clear HP2_5
  have HA_6 := Aside0.mk ((HA.out).below B)
  clear HA
  have HB := Aside0.mk (hf)
  have HS4 := Aside0.mk B.size
  clear B hf
  go_wp2_with (first | ((with_reducible refine gate_dst (N := 51) rfl ?_); refine load36 HI_6.out.box rfl (.tmp 2) rfl rfl ?_))
  refine (users_f x AT cT AR cR AI cI ts rs is r w4 HI_6.out.good).mono ?_
  rintro e w5 ⟨v, u, rfl, hf, hf2, of5, B⟩
  obtain ⟨q, hq⟩ : ∃ q, usersV ts rs is r = q := ⟨_, rfl⟩
  obtain ⟨lt, lu, eu⟩ := q
  have HUL := Aside0.mk (usersV_len ts rs is r)
  rw [hq] at hf hf2 HUL ⊢
  clear hq
  dsimp only at hf hf2 ⊢
  obtain ⟨T, t, e0⟩ := Kd.R_slice hf
  subst e0
  obtain ⟨U, u, e0⟩ := Kd.R_slice hf2
  subst e0
  have HI_7 := Aside0.mk ((HI_6.out).below x AT cT AR cR AI cI ts rs is B)
  clear HI_6
  have HX_7 := Aside0.mk ((HX_6.out).below B)
  clear HX_6
  have HP1_7 := Aside0.mk ((B.block _ (blk_lt HP1_6.out)).trans HP1_6.out)
  clear HP1_6
  have HY_7 := Aside0.mk ((HY_6.out).below B)
  clear HY_6
  have HP2_7 := Aside0.mk ((B.block _ (blk_lt HP2_6.out)).trans HP2_6.out)
  clear HP2_6
  have HA_7 := Aside0.mk ((HA_6.out).below B)
  clear HA_6
  have HB_7 := Aside0.mk ((HB.out).below B)
  clear HB
  have HTT := Aside0.mk (hf)
  have HU := Aside0.mk (hf2)
  have HOF5 := Aside0.mk of5
  have HS5 := Aside0.mk B.size
  clear B hf hf2 of5
  go_wp2_with (first | ((with_reducible refine gate_dst (N := 58) rfl ?_); refine load36 HI_7.out.box rfl (.tmp 2) rfl rfl ?_))
  refine (reckonr_f x AT cT AR cR AI cI ts rs is w5 HI_7.out.good).mono ?_
  rintro e w6 ⟨v0, v2, v3, v4, rfl, hf, B⟩
  rw [HRE.out] at hf ⊢
  obtain ⟨W0, w0_, e0⟩ := Kd.R_slice hf.r0
  subst e0
  obtain ⟨W2, w2_, e2⟩ := Kd.R_slice hf.r2
  subst e2
  obtain ⟨W3, w3_, e3⟩ := Kd.R_slice hf.r3
  subst e3
  obtain ⟨W4, w4_, e4⟩ := Kd.R_slice hf.r4
  subst e4
  have HI_8 := Aside0.mk ((HI_7.out).below x AT cT AR cR AI cI ts rs is B)
  clear HI_7
  have HX_8 := Aside0.mk ((HX_7.out).below B)
  clear HX_7
  have HP1_8 := Aside0.mk ((B.block _ (blk_lt HP1_7.out)).trans HP1_7.out)
  clear HP1_7
  have HY_8 := Aside0.mk ((HY_7.out).below B)
  clear HY_7
  have HP2_8 := Aside0.mk ((B.block _ (blk_lt HP2_7.out)).trans HP2_7.out)
  clear HP2_7
  have HA_8 := Aside0.mk ((HA_7.out).below B)
  clear HA_7
  have HB_8 := Aside0.mk ((HB_7.out).below B)
  clear HB_7
  have HTT_8 := Aside0.mk ((HTT.out).below B)
  clear HTT
  have HU_8 := Aside0.mk ((HU.out).below B)
  clear HU
  have HS6 := Aside0.mk B.size
  clear B
  have hbx : Below w6.heap.size w6 (w6.alloc (.cells #[.slice W0 R.l0.length w0_, .int .i64 R.s, .slice W2 R.l2.length w2_, .slice W3 R.l3.length w3_, .slice W4 R.l4.length w4_] 41)) := (Below.refl _ _).alloc (Nat.le_refl _) _
  have HI_9 := Aside0.mk ((HI_8.out).below x AT cT AR cR AI cI ts rs is hbx)
  clear HI_8
  have HX_9 := Aside0.mk ((HX_8.out).below hbx)
  clear HX_8
  have HP1_9 := Aside0.mk ((hbx.block _ (blk_lt HP1_8.out)).trans HP1_8.out)
  clear HP1_8
  have HY_9 := Aside0.mk ((HY_8.out).below hbx)
  clear HY_8
  have HP2_9 := Aside0.mk ((hbx.block _ (blk_lt HP2_8.out)).trans HP2_8.out)
  clear HP2_8
  have HA_9 := Aside0.mk ((HA_8.out).below hbx)
  clear HA_8
  have HB_9 := Aside0.mk ((HB_8.out).below hbx)
  clear HB_8
  have HTT_9 := Aside0.mk ((HTT_8.out).below hbx)
  clear HTT_8
  have HU_9 := Aside0.mk ((HU_8.out).below hbx)
  clear HU_8
  have HW := Aside0.mk (hf.below hbx)
  have HP6 := Aside0.mk (heap_alloc_new w6 (.cells #[.slice W0 R.l0.length w0_, .int .i64 R.s, .slice W2 R.l2.length w2_, .slice W3 R.l3.length w3_, .slice W4 R.l4.length w4_] 41))
  have HT6 := Aside0.mk (show (w6.alloc (.cells #[.slice W0 R.l0.length w0_, .int .i64 R.s, .slice W2 R.l2.length w2_, .slice W3 R.l3.length w3_, .slice W4 R.l4.length w4_] 41)).heap.size = w6.heap.size + 1 from alloc_size1 _ _)
  clear hf hbx
  go_wp2_with (first | ((with_reducible refine gate_dst (N := 63) rfl ?_); refine load36 HI_9.out.box rfl (.tmp 2) rfl rfl ?_))
  generalize w6.alloc (.cells #[.slice W0 R.l0.length w0_, .int .i64 R.s, .slice W2 R.l2.length w2_, .slice W3 R.l3.length w3_, .slice W4 R.l4.length w4_] 41) = w6a at *
  generalize w6.heap.size = P6 at *
  refine (groupr_f x AT cT AR cR AI cI ts rs is r w6a HI_9.out.good).mono ?_
  rintro e w7 ⟨v, rfl, hf, B⟩
  rw [HGE.out] at hf ⊢
  dsimp only at hf ⊢
  obtain ⟨K, k0, e0⟩ := Kd.R_slice hf
  subst e0
  have HI_10 := Aside0.mk ((HI_9.out).below x AT cT AR cR AI cI ts rs is B)
  clear HI_9
  have HX_10 := Aside0.mk ((HX_9.out).below B)
  clear HX_9
  have HP1_10 := Aside0.mk ((B.block _ (blk_lt HP1_9.out)).trans HP1_9.out)
  clear HP1_9
  have HY_10 := Aside0.mk ((HY_9.out).below B)
  clear HY_9
  have HP2_10 := Aside0.mk ((B.block _ (blk_lt HP2_9.out)).trans HP2_9.out)
  clear HP2_9
  have HA_10 := Aside0.mk ((HA_9.out).below B)
  clear HA_9
  have HB_10 := Aside0.mk ((HB_9.out).below B)
  clear HB_9
  have HTT_10 := Aside0.mk ((HTT_9.out).below B)
  clear HTT_9
  have HU_10 := Aside0.mk ((HU_9.out).below B)
  clear HU_9
  have HW_10 := Aside0.mk ((HW.out).below B)
  clear HW
  have HP6_10 := Aside0.mk ((B.block _ (blk_lt HP6.out)).trans HP6.out)
  clear HP6
  have HK := Aside0.mk (hf)
  have HS7 := Aside0.mk B.size
  clear B hf
  go_wp2_with (first | ((with_reducible refine gate_dst (N := 68) rfl ?_); refine load36 HI_10.out.box rfl (.tmp 2) rfl rfl ?_))
  refine (copy_calls x AT cT AR cR AI cI ts rs is w7 HI_10.out.good HZ.out.tb HZ.out.ib HZ.out.t HZ.out.i).mono ?_
  rintro e w8 ⟨B, AT2, dT, AR2, dR, AI2, dI, rfl, rt, rr, ri⟩
  have HI_11 := Aside0.mk ((HI_10.out).below x AT cT AR cR AI cI ts rs is B)
  clear HI_10
  have HX_11 := Aside0.mk ((HX_10.out).below B)
  clear HX_10
  have HP1_11 := Aside0.mk ((B.block _ (blk_lt HP1_10.out)).trans HP1_10.out)
  clear HP1_10
  have HY_11 := Aside0.mk ((HY_10.out).below B)
  clear HY_10
  have HP2_11 := Aside0.mk ((B.block _ (blk_lt HP2_10.out)).trans HP2_10.out)
  clear HP2_10
  have HA_11 := Aside0.mk ((HA_10.out).below B)
  clear HA_10
  have HB_11 := Aside0.mk ((HB_10.out).below B)
  clear HB_10
  have HTT_11 := Aside0.mk ((HTT_10.out).below B)
  clear HTT_10
  have HU_11 := Aside0.mk ((HU_10.out).below B)
  clear HU_10
  have HW_11 := Aside0.mk ((HW_10.out).below B)
  clear HW_10
  have HP6_11 := Aside0.mk ((B.block _ (blk_lt HP6_10.out)).trans HP6_10.out)
  clear HP6_10
  have HK_11 := Aside0.mk ((HK.out).below B)
  clear HK
  have HS8 := Aside0.mk B.size
  clear B
  have hbx : Below w8.heap.size w8 (w8.alloc (.cells (cpArr x.b9 (.slice AT2 ts.length dT) (.slice AR2 rs.length dR) (.slice AI2 is.length dI)) 36)) := (Below.refl _ _).alloc (Nat.le_refl _) _
  have HI_12 := Aside0.mk ((HI_11.out).below x AT cT AR cR AI cI ts rs is hbx)
  clear HI_11
  have HX_12 := Aside0.mk ((HX_11.out).below hbx)
  clear HX_11
  have HP1_12 := Aside0.mk ((hbx.block _ (blk_lt HP1_11.out)).trans HP1_11.out)
  clear HP1_11
  have HY_12 := Aside0.mk ((HY_11.out).below hbx)
  clear HY_11
  have HP2_12 := Aside0.mk ((hbx.block _ (blk_lt HP2_11.out)).trans HP2_11.out)
  clear HP2_11
  have HA_12 := Aside0.mk ((HA_11.out).below hbx)
  clear HA_11
  have HB_12 := Aside0.mk ((HB_11.out).below hbx)
  clear HB_11
  have HTT_12 := Aside0.mk ((HTT_11.out).below hbx)
  clear HTT_11
  have HU_12 := Aside0.mk ((HU_11.out).below hbx)
  clear HU_11
  have HW_12 := Aside0.mk ((HW_11.out).below hbx)
  clear HW_11
  have HP6_12 := Aside0.mk ((hbx.block _ (blk_lt HP6_11.out)).trans HP6_11.out)
  clear HP6_11
  have HK_12 := Aside0.mk ((HK_11.out).below hbx)
  clear HK_11
  have HCR := Aside0.mk (And.intro (Sp.below (Sp.of rt) hbx) (And.intro (Sp.below (Sp.of rr) hbx) (Sp.below (Sp.of ri) hbx)))
  have HCB := Aside0.mk (show BoxAt (w8.alloc (.cells (cpArr x.b9 (.slice AT2 ts.length dT) (.slice AR2 rs.length dR) (.slice AI2 is.length dI)) 36)) w8.heap.size (cpCV x.b9) AT2 dT AR2 dR AI2 dI ts.length rs.length is.length from heap_alloc_new w8 _)
  have HT8 := Aside0.mk (show (w8.alloc (.cells (cpArr x.b9 (.slice AT2 ts.length dT) (.slice AR2 rs.length dR) (.slice AI2 is.length dI)) 36)).heap.size = w8.heap.size + 1 from alloc_size1 _ _)
  clear rt rr ri hbx
  unfold cpArr at *
  have q1 := HP1_12.out
  have y0 : (w8.alloc (.cells #[.string ⟨#[]⟩, .string ⟨#[]⟩, .bool false, .bool false, .bool false, .bool false, .bool false, .bool false, .bool false, .bool x.b9, .slice none 0 0, .slice AT2 ts.length dT, .slice AR2 rs.length dR, .slice none 0 0, .slice none 0 0, .slice none 0 0, .slice AI2 is.length dI, .slice none 0 0] 36)).cell? ⟨P1, 0, none⟩ = some (.slice A0 R.l0.length a0) := by simp only [World.cell?, q1]; rfl
  have y2 : (w8.alloc (.cells #[.string ⟨#[]⟩, .string ⟨#[]⟩, .bool false, .bool false, .bool false, .bool false, .bool false, .bool false, .bool false, .bool x.b9, .slice none 0 0, .slice AT2 ts.length dT, .slice AR2 rs.length dR, .slice none 0 0, .slice none 0 0, .slice none 0 0, .slice AI2 is.length dI, .slice none 0 0] 36)).cell? ⟨P1, 2, none⟩ = some (.slice A2 R.l2.length a2) := by simp only [World.cell?, q1]; rfl
  have y3 : (w8.alloc (.cells #[.string ⟨#[]⟩, .string ⟨#[]⟩, .bool false, .bool false, .bool false, .bool false, .bool false, .bool false, .bool false, .bool x.b9, .slice none 0 0, .slice AT2 ts.length dT, .slice AR2 rs.length dR, .slice none 0 0, .slice none 0 0, .slice none 0 0, .slice AI2 is.length dI, .slice none 0 0] 36)).cell? ⟨P1, 3, none⟩ = some (.slice A3 R.l3.length a3) := by simp only [World.cell?, q1]; rfl
  have y4 : (w8.alloc (.cells #[.string ⟨#[]⟩, .string ⟨#[]⟩, .bool false, .bool false, .bool false, .bool false, .bool false, .bool false, .bool false, .bool x.b9, .slice none 0 0, .slice AT2 ts.length dT, .slice AR2 rs.length dR, .slice none 0 0, .slice none 0 0, .slice none 0 0, .slice AI2 is.length dI, .slice none 0 0] 36)).cell? ⟨P1, 4, none⟩ = some (.slice A4 R.l4.length a4) := by simp only [World.cell?, q1]; rfl
  clear q1
  go_wp2_with fail
  clear y0 y2 y3 y4
  generalize w8.alloc (.cells #[.string ⟨#[]⟩, .string ⟨#[]⟩, .bool false, .bool false, .bool false, .bool false, .bool false, .bool false, .bool false, .bool x.b9, .slice none 0 0, .slice AT2 ts.length dT, .slice AR2 rs.length dR, .slice none 0 0, .slice none 0 0, .slice none 0 0, .slice AI2 is.length dI, .slice none 0 0] 36) = w8a at *
  generalize w8.heap.size = D at *
  have hbl : Below w8a.heap.size w8a (w8a.alloc (.cells #[.slice A0 R.l0.length a0, .slice A2 R.l2.length a2, .slice A3 R.l3.length a3, .slice A4 R.l4.length a4, .slice GA la.length ga, .slice T lt.length t, .slice U lu.length u] 39)) := (Below.refl _ _).alloc (Nat.le_refl _) _
  have HI_13 := Aside0.mk ((HI_12.out).below x AT cT AR cR AI cI ts rs is hbl)
  clear HI_12
  have HX_13 := Aside0.mk ((HX_12.out).below hbl)
  clear HX_12
  have HP1_13 := Aside0.mk ((hbl.block _ (blk_lt HP1_12.out)).trans HP1_12.out)
  clear HP1_12
  have HY_13 := Aside0.mk ((HY_12.out).below hbl)
  clear HY_12
  have HP2_13 := Aside0.mk ((hbl.block _ (blk_lt HP2_12.out)).trans HP2_12.out)
  clear HP2_12
  have HA_13 := Aside0.mk ((HA_12.out).below hbl)
  clear HA_12
  have HB_13 := Aside0.mk ((HB_12.out).below hbl)
  clear HB_12
  have HTT_13 := Aside0.mk ((HTT_12.out).below hbl)
  clear HTT_12
  have HU_13 := Aside0.mk ((HU_12.out).below hbl)
  clear HU_12
  have HW_13 := Aside0.mk ((HW_12.out).below hbl)
  clear HW_12
  have HP6_13 := Aside0.mk ((hbl.block _ (blk_lt HP6_12.out)).trans HP6_12.out)
  clear HP6_12
  have HK_13 := Aside0.mk ((HK_12.out).below hbl)
  clear HK_12
  have HCR_13 := Aside0.mk (And.intro (Sp.below HCR.out.1 hbl) (And.intro (Sp.below HCR.out.2.1 hbl) (Sp.below HCR.out.2.2 hbl)))
  clear HCR
  have HCB_13 := Aside0.mk ((HCB.out).below hbl)
  clear HCB
  have HLI := Aside0.mk (ListAt.made w8a [.slice A0 R.l0.length a0, .slice A2 R.l2.length a2, .slice A3 R.l3.length a3, .slice A4 R.l4.length a4, .slice GA la.length ga, .slice T lt.length t, .slice U lu.length u] 39)
  have HT9 := Aside0.mk (show (w8a.alloc (.cells #[.slice A0 R.l0.length a0, .slice A2 R.l2.length a2, .slice A3 R.l3.length a3, .slice A4 R.l4.length a4, .slice GA la.length ga, .slice T lt.length t, .slice U lu.length u] 39)).heap.size = w8a.heap.size + 1 from alloc_size1 _ _)
  clear hbl
  change Aside0 (ListAt (w8a.alloc (.cells #[.slice A0 R.l0.length a0, .slice A2 R.l2.length a2, .slice A3 R.l3.length a3, .slice A4 R.l4.length a4, .slice GA la.length ga, .slice T lt.length t, .slice U lu.length u] 39)) _ _ _) at HLI
  generalize w8a.alloc (.cells #[.slice A0 R.l0.length a0, .slice A2 R.l2.length a2, .slice A3 R.l3.length a3, .slice A4 R.l4.length a4, .slice GA la.length ga, .slice T lt.length t, .slice U lu.length u] 39) = w9 at *
  have HSZ := Aside0.mk (And.intro HS0.out (And.intro HS1.out (And.intro HT1.out (And.intro HS2.out (And.intro HT2.out (And.intro HS3.out (And.intro HS4.out (And.intro HS5.out (And.intro HS6.out (And.intro HT6.out (And.intro HS7.out (And.intro HS8.out (And.intro HT8.out HT9.out)))))))))))))
  have HD1 := Aside0.mk HT8.out
  clear HS0 HS1 HT1 HS2 HT2 HS3 HS4 HS5 HS6 HT6 HS7 HS8 HT8 HT9
  have HSV := Aside0.mk (show Seven w9 w0.heap.size P1 w2a.heap.size w3.heap.size w4.heap.size w5.heap.size (.slice A0 R.l0.length a0) (.slice A2 R.l2.length a2) (.slice A3 R.l3.length a3) (.slice A4 R.l4.length a4) (.slice GA la.length ga) (.slice T lt.length t) (.slice U lu.length u) R la lt lu from ⟨HX_13.out, HOF1.out, HA_13.out, HTT_13.out, HU_13.out, HOF5.out, by have := HSZ.out; omega⟩)
  have HFM := Aside0.mk HSV.out.fam
  have HAP := Aside0.mk (HSV.out.apart w8a.heap.size (by have := HSZ.out; omega) (by have := HSZ.out; omega))
  have HFL := Aside0.mk (fun i => Seven.len (R := R) (la := la) (lt := lt) (lu := lu) (fun l hl => by
    have h1 := HRL.out; have h2 := HGL.out; have h3 := HUL.out; have h4 := HI_13.out.good.r; have h5 := HI_13.out.good.t; have h6 := HI_13.out.good.i
    simp only [List.mem_cons, List.not_mem_nil, or_false] at hl
    rcases hl with rfl | rfl | rfl | rfl | rfl | rfl | rfl <;> omega) i)
  have HZR := Aside0.mk (show ∀ wz, Kept w9 wz (Of [.slice A0 R.l0.length a0, .slice A2 R.l2.length a2, .slice A3 R.l3.length a3, .slice A4 R.l4.length a4, .slice GA la.length ga, .slice T lt.length t, .slice U lu.length u]) → wz.heap[P2]? = some (.cells #[.slice B0 R.l0.length b0, .int .i64 R.s, .slice B2 R.l2.length b2, .slice B3 R.l3.length b3, .slice B4 R.l4.length b4] 41 (0, 0)) ∧ wz.heap[P6]? = some (.cells #[.slice W0 R.l0.length w0_, .int .i64 R.s, .slice W2 R.l2.length w2_, .slice W3 R.l3.length w3_, .slice W4 R.l4.length w4_] 41 (0, 0)) ∧ Four wz w1a.heap.size P2 (.slice B0 R.l0.length b0) (.slice B2 R.l2.length b2) (.slice B3 R.l3.length b3) (.slice B4 R.l4.length b4) R ∧ Four wz w5.heap.size P6 (.slice W0 R.l0.length w0_) (.slice W2 R.l2.length w2_) (.slice W3 R.l3.length w3_) (.slice W4 R.l4.length w4_) R ∧ Sn wz w3.heap.size w4.heap.size (.slice H la.length h) la ∧ Sn wz w6a.heap.size w7.heap.size (.slice K la.length k0) la ∧ (Sp k64 64 wz w7.heap.size D (.slice AT2 ts.length dT) (ts.map cpT) ∧ Sp k73 73 wz w7.heap.size D (.slice AR2 rs.length dR) rs ∧ Sp k66 66 wz w7.heap.size D (.slice AI2 is.length dI) (is.map cpI)) ∧ BoxAt wz D (cpCV x.b9) AT2 dT AR2 dR AI2 dI ts.length rs.length is.length from by
    intro wz hk
    have hs := HSZ.out
    have hsp := HSV.out.span
    exact ⟨blk_kept HP2_13.out hk (fun h => by have := hsp _ h; omega), blk_kept HP6_13.out hk (fun h => by have := hsp _ h; omega), HY_13.out.kept hk (fun k h0 h1 h2 => by have := hsp k h2; omega), HW_13.out.kept hk (fun k h0 h1 h2 => by have := hsp k h2; omega), HB_13.out.kept hk (fun k h0 h1 h2 => by have := hsp k h2; omega), HK_13.out.kept hk (fun k h0 h1 h2 => by have := hsp k h2; omega), ⟨Sp.kept HCR_13.out.1 hk (fun k h0 h1 h2 => by have := hsp k h2; omega), Sp.kept HCR_13.out.2.1 hk (fun k h0 h1 h2 => by have := hsp k h2; omega), Sp.kept HCR_13.out.2.2 hk (fun k h0 h1 h2 => by have := hsp k h2; omega)⟩, blk_kept HCB_13.out hk (fun h => by have := hsp _ h; omega)⟩)
  have HI9 := Aside0.mk HI_13.out
  have HOFS := Aside0.mk (show w.heap.size < w0.heap.size ∧ w0.heap.size ≤ w9.heap.size from by have := HSZ.out; omega)
  clear HSV HSZ HOF1 HOF2 HOF5 HRL HGL HUL HI_13 HX_13 HP1_13 HY_13 HP2_13 HA_13 HB_13 HTT_13 HU_13 HW_13 HP6_13 HK_13 HCR_13 HCB_13
  obtain ⟨vs, hvs⟩ : ∃ vs : List Value, [.slice A0 R.l0.length a0, .slice A2 R.l2.length a2, .slice A3 R.l3.length a3, .slice A4 R.l4.length a4, .slice GA la.length ga, .slice T lt.length t, .slice U lu.length u] = vs := ⟨_, rfl⟩
  rw [hvs] at HFM HAP HLI HZR
  have HVN := Aside0.mk (show vs.length = 7 from by rw [← hvs]; rfl)
  clear hvs
  generalize sevenL R la lt lu = f at *
  rw [HD1.out] at HLI HAP
  clear HD1
  generalize (⟨D + 1, 0, none⟩ : Addr) = ad at *
  generalize D + 1 = gl at *
  go_loopw [22] (fun i wr => ∃ k : Nat, k ≤ 7 ∧ i = .int .i64 k ∧ Aside0 (Fam wr w0.heap.size vs (fun j => if j < k then G f j else f j)) ∧ Aside0 (Below w0.heap.size w9 wr) ∧ Aside0 (ListAt wr (some ad) gl vs) ∧ Aside0 (Kept w9 wr (Of vs))) (fun i _ => 7 - (intOf i).toNat)
  case atStart => exact ⟨0, by omega, rfl, ⟨by simpa using HFM.out⟩, ⟨Below.refl _ _⟩, HLI, ⟨Kept.refl _ _⟩⟩
  case round =>
    clear HFM HLI
    obtain ⟨k, hk, rfl, HR, HB, HL, HKp⟩ := hrel
    by_cases hlt : k < 7
    · as_aux_lemma =>
        have hd : decide ((k : Int) < 7) = true := decide_eq_true (by omega)
        obtain ⟨vk, hvk⟩ : ∃ v, vs[k]? = some v := ⟨vs[k]'(by rw [HVN.out]; exact hlt), List.getElem?_eq_getElem _⟩
        obtain ⟨_, hA, hg, hc⟩ := HL.out k _ hvk
        cases hA
        go_wp2_with fail
        go_loopw [23] (fun y wr' => ∃ m : Nat, m ≤ (f k).length ∧ y = .int .i64 m ∧ Aside0 (Fam wr' w0.heap.size vs (fun j => if j < k then G f j else if j = k then mix f k m else f j)) ∧ Aside0 (Below w0.heap.size w9 wr') ∧ Aside0 (ListAt wr' (some ad) gl vs) ∧ Aside0 (Kept w9 wr' (Of vs))) (fun y _ => (f k).length - (intOf y).toNat)
        case atStart => exact ⟨0, by omega, rfl, ⟨fun i v hv => by
          have := HR.out i v hv
          rw [mix_none]
          by_cases e1 : i < k
          · simpa [e1] using this
          · by_cases e2 : i = k
            · subst e2; simpa using this
            · simpa [e1, e2] using this⟩, HB, HL, HKp⟩
        case round =>
          clear HR HB HL HKp hg hc
          obtain ⟨m, hm, rfl, HR2, HB2, HL2, HK2⟩ := hrel
          have hus : US wr w0.heap.size vk (mix f k m) := by simpa using HR2.out k _ hvk
          obtain ⟨Ak, ck, hvs⟩ := hus.slice
          rw [mix_length f k m hm] at hvs
          obtain ⟨ad', hA', hg', hc'⟩ := HL2.out k _ hvk
          cases hA'
          rw [hvs] at hc'
          have hlen := HFL.out k
          by_cases hlt2 : m < (f k).length
          · have hd2 : decide ((m : Int) < ((f k).length : Int)) = true := decide_eq_true (by omega)
            obtain ⟨gk, ck', he, hbg, hck⟩ := hus.form (by rw [mix_length f k m hm]; omega)
            rw [mix_length f k m hm, hvs] at he
            injection he with he1 _ he3
            subst he1 he3
            rw [hvs] at hus
            have hp := hus.put m (m2 k m)
            rw [mix_succ f k m hlt2] at hp
            obtain ⟨hx0, hf0⟩ := hus.cell m (by rw [mix_length f k m hm]; exact hlt2)
            have HPP := Aside0.mk hp
            clear hp hus
            have hw1 : IntKind.i64.wrap (1000 * (k : Int)) = 1000 * (k : Int) := IntWalk.i64_in _ (by omega)
            have hw2 : IntKind.i64.wrap (1000 * (k : Int) + (m : Int)) = 1000 * (k : Int) + (m : Int) := IntWalk.i64_in _ (by omega)
            unfold m2 at HPP
            go_wp2_with fail
            go_roundw
            case rel => exact ⟨m + 1, by omega, by go_num, ⟨HR2.out.put HAP.out k vk hvk (by have h1 := HPP.out.1; simpa [hvs] using h1) (by rw [hvs]; exact HPP.out.2) (fun j hj => by simp [hj])⟩, ⟨HB2.out.grown HPP.out.2 (Nat.le_trans HOFS.out.2 HB2.out.size) (fun j hj => by injection hj with hj; omega)⟩, ⟨HL2.out.grown HAP.out k _ hvk (by rw [hvs]; exact HPP.out.2)⟩, ⟨Kept.of_grown HPP.out.2 HK2.out (fun j hj => .inl ⟨vk, List.mem_of_getElem? hvk, by rw [hvs]; exact hj⟩)⟩⟩
            case measure => simp [intOf]; omega
          · have hd2 : decide ((m : Int) < ((f k).length : Int)) = false := decide_eq_false (by omega)
            obtain rfl : m = (f k).length := by omega
            have HR3 : Aside0 (Fam wr w0.heap.size vs (fun j => if j < k + 1 then G f j else f j)) := ⟨fun i v hv => by
              have := HR2.out i v hv
              rw [mix_all] at this
              by_cases e1 : i < k
              · simpa [e1, Nat.lt_succ_of_lt e1] using this
              · by_cases e2 : i = k
                · subst e2; simpa using this
                · simpa [e1, e2, show ¬ i < k + 1 by omega] using this⟩
            clear HR2
            go_wp2_with fail
            go_roundw
            case rel => exact ⟨k + 1, by omega, by go_num, HR3, HB2, HL2, HK2⟩
            case measure => simp [intOf]; omega
    · have hd : decide ((k : Int) < 7) = false := decide_eq_false (by omega)
      have hk7 : k = 7 := by omega
      have HRG : Aside0 (Fam wr w0.heap.size vs (G f)) := ⟨fun i v hv => by
        have hi : i < vs.length := (List.getElem?_eq_some_iff.mp hv).1
        rw [HVN.out, ← hk7] at hi
        have := HR.out i v hv
        simpa [hi] using this⟩
      clear HR hk7
      go_wp2_with fail
      go_loopw [24, 25] (fun n i wr' => ∃ (k : Nat) (s : Int), k ≤ 7 ∧ n = .int .i64 s ∧ i = .int .i64 k ∧ Aside0 (s = (sumL f k : Nat)) ∧ Aside0 (Fam wr' w0.heap.size vs (G f)) ∧ Aside0 (Below w0.heap.size w9 wr') ∧ Aside0 (ListAt wr' (some ad) gl vs) ∧ Aside0 (Kept w9 wr' (Of vs))) (fun _ i _ => 7 - (intOf i).toNat)
      case atStart => exact ⟨0, 0, by omega, rfl, rfl, ⟨rfl⟩, HRG, HB, HL, HKp⟩
      case round =>
        clear HRG HB HL hd HKp
        obtain ⟨k, s, hk, rfl, rfl, HSm, HR, HB, HL, HKp⟩ := hrel
        by_cases hlt : k < 7
        · as_aux_lemma =>
            have hd : decide ((k : Int) < 7) = true := decide_eq_true (by omega)
            obtain ⟨vk, hvk⟩ : ∃ v, vs[k]? = some v := ⟨vs[k]'(by rw [HVN.out]; exact hlt), List.getElem?_eq_getElem _⟩
            obtain ⟨_, hA, hg, hc⟩ := HL.out k _ hvk
            cases hA
            have hus := HR.out k _ hvk
            have HUS := Aside0.mk hus
            obtain ⟨Ak, ck, hvs⟩ := hus.slice
            rw [G_length] at hvs
            rw [hvs] at hc HUS
            have hlen := HFL.out k
            have hsl := sumL_le f HFL.out k
            clear hus
            go_wp2_with fail
            refine (grown_calls _ (G f k) (-7) w0.heap.size wr HUS.out (Nat.le_trans HOFS.out.2 HB.out.size) (by rw [G_length]; omega)).mono ?_
            rintro e wg ⟨rfl, hgr, hkp⟩
            have HGR := Aside0.mk (And.intro hgr hkp)
            clear hgr hkp
            obtain ⟨y, hy⟩ : ∃ y : Int, (((G f k).length + 40 : Nat) : Int) = y := ⟨_, rfl⟩
            rw [hy]
            rw [G_length] at hy
            have HY := Aside0.mk hy
            have hw1 : IntKind.i64.wrap (s + y) = s + y := IntWalk.i64_in _ (by have := HSm.out; omega)
            clear hy hsl
            go_wp2_with fail
            go_roundw
            case rel => exact ⟨k + 1, s + y, by omega, rfl, by go_num, ⟨by have h1 := HSm.out; have h2 := HY.out; rw [show sumL f (k + 1) = sumL f k + ((f k).length + 40) from rfl]; omega⟩, ⟨HR.out.put HAP.out k vk hvk (by rw [hvs]; exact HGR.out.2 _ _ _ HUS.out rfl (Nat.le_refl _)) (by rw [hvs]; exact HGR.out.1) (fun j hj => rfl)⟩, ⟨HB.out.grown HGR.out.1 (Nat.le_trans HOFS.out.2 HB.out.size) (own_base HUS.out)⟩, ⟨HL.out.grown HAP.out k _ hvk (by rw [hvs]; exact HGR.out.1)⟩, ⟨Kept.of_grown HGR.out.1 HKp.out (fun j hj => .inl ⟨vk, List.mem_of_getElem? hvk, by rw [hvs]; exact hj⟩)⟩⟩
            case measure => simp [intOf]; omega
        · have hd : decide ((k : Int) < 7) = false := decide_eq_false (by omega)
          have HK2 := Aside0.mk (show k = 7 from by omega)
          go_wp2_with fail
          go_loopw [26] (fun i wr' => ∃ k : Nat, k ≤ 7 ∧ i = .int .i64 k ∧ Aside0 (Fam wr' w0.heap.size vs (G f)) ∧ Aside0 (Below w0.heap.size w9 wr') ∧ Aside0 (ListAt wr' (some ad) gl vs) ∧ Aside0 (Kept w9 wr' (Of vs))) (fun i _ => 7 - (intOf i).toNat)
          case atStart => exact ⟨0, by omega, rfl, HR, HB, HL, HKp⟩
          case round =>
            clear HR HB HL hd HKp
            obtain ⟨k, hk, rfl, HR, HB, HL, HKp⟩ := hrel
            by_cases hlt : k < 7
            · as_aux_lemma =>
                have hd : decide ((k : Int) < 7) = true := decide_eq_true (by omega)
                obtain ⟨vk, hvk⟩ : ∃ v, vs[k]? = some v := ⟨vs[k]'(by rw [HVN.out]; exact hlt), List.getElem?_eq_getElem _⟩
                go_wp2_with fail
                go_loopw [27] (fun y wr' => ∃ m : Nat, m ≤ (f k).length ∧ y = .int .i64 m ∧ Aside0 (Fam wr' w0.heap.size vs (G f)) ∧ Aside0 (Below w0.heap.size w9 wr') ∧ Aside0 (ListAt wr' (some ad) gl vs) ∧ Aside0 (Kept w9 wr' (Of vs))) (fun y _ => (f k).length - (intOf y).toNat)
                case atStart => exact ⟨0, by omega, rfl, HR, HB, HL, HKp⟩
                case round =>
                  clear HR HB HL HKp
                  obtain ⟨m, hm, rfl, HR, HB, HL, HKp⟩ := hrel
                  have hus := HR.out k _ hvk
                  obtain ⟨Ak, ck, hvs⟩ := hus.slice
                  rw [G_length] at hvs
                  obtain ⟨ad', hA', hg', hc'⟩ := HL.out k _ hvk
                  cases hA'
                  rw [hvs] at hc'
                  have hlen := HFL.out k
                  by_cases hlt2 : m < (f k).length
                  · have hd2 : decide ((m : Int) < ((f k).length : Int)) = true := decide_eq_true (by omega)
                    obtain ⟨gk, ck', he, hbg, hck⟩ := hus.form (by rw [G_length]; omega)
                    rw [G_length, hvs] at he
                    injection he with he1 _ he3
                    subst he1 he3
                    rw [hvs] at hus
                    obtain ⟨hx0, hf0⟩ := hus.cell m (by rw [G_length]; exact hlt2)
                    rw [G_get f k m hlt2] at hx0
                    unfold m2 at hx0
                    have hw1 : IntKind.i64.wrap (1000 * (k : Int)) = 1000 * (k : Int) := IntWalk.i64_in _ (by omega)
                    have hw2 : IntKind.i64.wrap (1000 * (k : Int) + (m : Int)) = 1000 * (k : Int) + (m : Int) := IntWalk.i64_in _ (by omega)
                    have hq : (1000 * (k : Int) + (m : Int) != 1000 * (k : Int) + (m : Int)) = false := by simp
                    clear hus
                    go_wp2_with fail
                    go_roundw
                    case rel => exact ⟨m + 1, by omega, by go_num, HR, HB, HL, HKp⟩
                    case measure => simp [intOf]; omega
                  · have hd2 : decide ((m : Int) < ((f k).length : Int)) = false := decide_eq_false (by omega)
                    obtain rfl : m = (f k).length := by omega
                    go_wp2_with fail
                    go_roundw
                    case rel => exact ⟨k + 1, by omega, by go_num, HR, HB, HL, HKp⟩
                    case measure => simp [intOf]; omega
            · have hd : decide ((k : Int) < 7) = false := decide_eq_false (by omega)
              have hn : decide ((280 : Int) ≤ s) = true := decide_eq_true (by have h1 := HSm.out; have h2 := HK2.out; have h3 := sumL_le f HFL.out 7; rw [h2] at h1; omega)
              obtain ⟨z2, z6, fy, fw, sb, sk, ⟨c1, c2, c3⟩, bx⟩ := HZR.out wr HKp.out
              have HPY := Aside0.mk z2
              have HPW := Aside0.mk z6
              have HFY := Aside0.mk fy
              have HFW := Aside0.mk fw
              have HSB := Aside0.mk sb
              have HSK := Aside0.mk sk
              have HGC := Aside0.mk (good_cp HI9.out.good (Kd.R_mono c1 (fun _ _ => trivial)) (Kd.R_mono c2 (fun _ _ => trivial)) (Kd.R_mono c3 (fun _ _ => trivial)))
              have HCB := Aside0.mk bx
              have HIF := Aside0.mk (show In x AT cT AR cR AI cI ts rs is w wr from ⟨HI9.out.bel.trans (HB.out.mono (Nat.le_of_lt HOFS.out.1)), (HB.out.block _ HOFS.out.1).trans HI9.out.box, HG0.out.below _ _ _ _ _ _ _ _ _ (HI9.out.bel.trans (HB.out.mono (Nat.le_of_lt HOFS.out.1)))⟩)
              have HXo := Aside0.mk HIF.out.box
              clear z2 z6 fy fw sb sk c1 c2 c3 bx HR HB HL HKp HSm HK2 HZR HI9 HG0 HAP HFL HVN
              go_wp2_with fail
              refine (num_calls _ _).mono ?_
              rintro e w' ⟨rfl, rfl⟩
              by_cases he : R.er = 0
              · as_aux_lemma =>
                  have hb : (R.er != 0) = false := by simp [he]
                  clear he
                  have yy := HPY.out
                  have zz := HPW.out
                  have y0 : wr.cell? ⟨P2, 0, none⟩ = some (.slice B0 R.l0.length b0) := by simp only [World.cell?, yy]; rfl
                  have z0 : wr.cell? ⟨P6, 0, none⟩ = some (.slice W0 R.l0.length w0_) := by simp only [World.cell?, zz]; rfl
                  have y1 : wr.cell? ⟨P2, 1, none⟩ = some (.int .i64 R.s) := by simp only [World.cell?, yy]; rfl
                  have z1 : wr.cell? ⟨P6, 1, none⟩ = some (.int .i64 R.s) := by simp only [World.cell?, zz]; rfl
                  have y2 : wr.cell? ⟨P2, 2, none⟩ = some (.slice B2 R.l2.length b2) := by simp only [World.cell?, yy]; rfl
                  have z2 : wr.cell? ⟨P6, 2, none⟩ = some (.slice W2 R.l2.length w2_) := by simp only [World.cell?, zz]; rfl
                  have y3 : wr.cell? ⟨P2, 3, none⟩ = some (.slice B3 R.l3.length b3) := by simp only [World.cell?, yy]; rfl
                  have z3 : wr.cell? ⟨P6, 3, none⟩ = some (.slice W3 R.l3.length w3_) := by simp only [World.cell?, zz]; rfl
                  have y4 : wr.cell? ⟨P2, 4, none⟩ = some (.slice B4 R.l4.length b4) := by simp only [World.cell?, yy]; rfl
                  have z4 : wr.cell? ⟨P6, 4, none⟩ = some (.slice W4 R.l4.length w4_) := by simp only [World.cell?, zz]; rfl
                  clear yy zz
                  go_wp2_with fail
                  clear y0 y1 y2 y3 y4 z0 z1 z2 z3 z4
                  have fy := HFY.out
                  have fw := HFW.out
                  refine (same_c _ _ _ _ _ _ _ _ R.l0 R.l2 R.l3 R.l4 R.s wr fy.r0.rd fy.r2.rd fy.r3.rd fy.r4.rd fw.r0.rd fw.r2.rd fw.r3.rd fw.r4.rd).mono ?_
                  rintro e wa ⟨rfl, Ba⟩
                  clear fy fw
                  have HBa := Aside0.mk Ba
                  clear Ba
                  go_wp2_with fail
                  refine (ints_c _ _ la wa (HSB.out.below HBa.out).rd (HSK.out.below HBa.out).rd).mono ?_
                  rintro e wz ⟨rfl, Bz⟩
                  have HBz := Aside0.mk (HBa.out.trans (Bz.mono HBa.out.size))
                  clear Bz
                  have HL1 := Aside0.mk (HIF.out.below x AT cT AR cR AI cI ts rs is HBz.out)
                  have HL2 := Aside0.mk (HCB.out.below HBz.out)
                  have HL3 := Aside0.mk (HGC.out.below _ _ _ _ _ _ _ _ _ HBz.out)
                  go_wp2_with (first | ((with_reducible refine gate_dst (N := 165) rfl ?_); (refine gate_guard (by rfl) ?_; dsimp only); refine load36 HL1.out.box rfl (.tmp 2) rfl rfl ?_) | ((with_reducible refine gate_dst (N := 166) rfl ?_); (refine gate_guard (by rfl) ?_; dsimp only); refine load36 HL2.out rfl (.tmp 20) rfl rfl ?_))
                  have hsm := same_calls x AT cT AR cR AI cI ts rs is (cpCV x.b9) AT2 dT AR2 dR AI2 dI (ts.map cpT) (is.map cpI) wz HL1.out.good HL3.out.cfg (alike_pc ts is) x.b9 rfl rfl
                  rw [List.length_map, List.length_map] at hsm
                  refine hsm.mono ?_
                  rintro e we ⟨rfl, B2⟩
                  clear hsm
                  have HB2 := Aside0.mk B2
                  clear B2
                  go_wp2_with fail
                  refine (alive_calls we).mono ?_
                  rintro e wf ⟨rfl, B3⟩
                  have HB3 := Aside0.mk B3
                  clear B3
                  go_wp2_with fail
                  go_ret
                  exact ⟨rfl, (HL1.out.bel.trans (HB2.out.mono HL1.out.bel.size)).trans (HB3.out.mono (HL1.out.bel.trans (HB2.out.mono HL1.out.bel.size)).size)⟩
              · as_aux_lemma =>
                  have hb : (R.er != 0) = true := by simp [he]
                  clear he
                  have HBz := Aside0.mk (Below.refl wr.heap.size wr)
                  have HL1 := Aside0.mk (HIF.out.below x AT cT AR cR AI cI ts rs is HBz.out)
                  have HL2 := Aside0.mk (HCB.out.below HBz.out)
                  have HL3 := Aside0.mk (HGC.out.below _ _ _ _ _ _ _ _ _ HBz.out)
                  go_wp2_with (first | ((with_reducible refine gate_dst (N := 165) rfl ?_); (refine gate_guard (by rfl) ?_; dsimp only); refine load36 HL1.out.box rfl (.tmp 2) rfl rfl ?_) | ((with_reducible refine gate_dst (N := 166) rfl ?_); (refine gate_guard (by rfl) ?_; dsimp only); refine load36 HL2.out rfl (.tmp 20) rfl rfl ?_))
                  have hsm := same_calls x AT cT AR cR AI cI ts rs is (cpCV x.b9) AT2 dT AR2 dR AI2 dI (ts.map cpT) (is.map cpI) wr HL1.out.good HL3.out.cfg (alike_pc ts is) x.b9 rfl rfl
                  rw [List.length_map, List.length_map] at hsm
                  refine hsm.mono ?_
                  rintro e we ⟨rfl, B2⟩
                  clear hsm
                  have HB2 := Aside0.mk B2
                  clear B2
                  go_wp2_with fail
                  refine (alive_calls we).mono ?_
                  rintro e wf ⟨rfl, B3⟩
                  have HB3 := Aside0.mk B3
                  clear B3
                  go_wp2_with fail
                  go_ret
                  exact ⟨rfl, (HL1.out.bel.trans (HB2.out.mono HL1.out.bel.size)).trans (HB3.out.mono (HL1.out.bel.trans (HB2.out.mono HL1.out.bel.size)).size)⟩
end Go.Proofs.Ytflkbheginhfiaa.XA
