/- OctetReads: the walk through the statement's own code. -/
import Derived.Test.YtbhlalnpefijkaaHRef2
import Derived.Test.YtbhlalnpefijkaaHWrites
import Derived.Test.YtbhlalnpefijkaaHOpen
namespace Go.Proofs.Ytbhlalnpefijkaa.XC
set_option linter.unusedVariables false
set_option linter.unusedSimpArgs false
open Go.RowKit Go.Proofs.YtbhlalnpefijkaaW.PrintWords Go.Proofs.YtbhlalnpefijkaaW.PrintLast Go.Proofs.YtbhlalnpefijkaaW.PrintMore

/-! ### blocks by their types -/
def Ty (w : World) (k t : Nat) : Prop := ∃ cs, w.heap[k]? = some (.cells cs t (0, 0))
/-- every block is kept that is not of type t0 -/
def Keeps (w w1 : World) (t0 : Nat) : Prop := ∀ k t, Ty w k t → t ≠ t0 → w1.heap[k]? = w.heap[k]?
theorem Ty.lt {w : World} {k t : Nat} (h : Ty w k t) : k < w.heap.size := by
  obtain ⟨cs, h⟩ := h
  exact blk_lt h
theorem keeps_below {w w1 : World} (h : Below w.heap.size w w1) (t0 : Nat) : Keeps w w1 t0 := fun k t hk _ => h.block k hk.lt
theorem keeps_grown {w w1 : World} {row : Option Nat} {t0 : Nat} (h : w.grownBy w1 row) (ht : ∀ k, row = some k → Ty w k t0) : Keeps w w1 t0 := fun k t hk hne => h.block k hk.lt (fun e => by
  obtain ⟨c1, h1⟩ := hk
  obtain ⟨c2, h2⟩ := ht k e.symm
  rw [h1] at h2
  injection h2 with h2
  injection h2 with _ h2
  exact hne h2)
theorem Keeps.trans {w w1 w2 : World} {t0 : Nat} (h : Keeps w w1 t0) (h2 : Keeps w1 w2 t0) : Keeps w w2 t0 := fun k t hk hne => by
  have e := h k t hk hne
  obtain ⟨c1, h1⟩ := hk
  exact (h2 k t ⟨c1, e.trans h1⟩ hne).trans e
theorem rd_ty {w : World} {base B : Nat} {bs : List Int} (h : RdSt w base B bs) : Ty w B 71 := by
  obtain ⟨A, c, h1, _⟩ := h
  exact ⟨_, h1⟩
theorem pt_ty {w : World} {base B : Nat} {l : List Int} {a : Nat} (h : PtSt w base B l a) : Ty w B 67 := by
  obtain ⟨A, c, h1, _⟩ := h
  exact ⟨_, h1⟩
theorem keeps_rd {w w1 : World} {base B : Nat} {bs : List Int} (h : RdSt w base B bs) (ho : RdOnly w w1 B) : Keeps w w1 71 := keeps_grown ho (fun k e => by injection e with e; subst e; exact rd_ty h)
theorem keeps_pt {w w1 : World} {base B : Nat} {l : List Int} {a : Nat} (h : PtSt w base B l a) (ho : RdOnly w w1 B) : Keeps w w1 67 := keeps_grown ho (fun k e => by injection e with e; subst e; exact pt_ty h)
/-- a reader is as it was where its blocks are -/
theorem rd_move {w w1 : World} {base B : Nat} {bs : List Int} (h : RdSt w base B bs) (hm : ∀ k t, Ty w k t → t = 71 ∨ t = 5 → base ≤ k → w1.heap[k]? = w.heap[k]?) : RdSt w1 base B bs := by
  obtain ⟨A, c, h1, h2, h3, h4, h5⟩ := h
  refine ⟨A, c, (hm B 71 ⟨_, h1⟩ (.inl rfl) h2).trans h1, h2, h3, h4, fun hp => ?_⟩
  obtain ⟨g, off, e, g1, g2, g3, ⟨cs, hcs⟩, hc⟩ := h5 hp
  have hk := hm g 5 ⟨_, hcs⟩ (.inr rfl) g1
  exact ⟨g, off, e, g1, blk_lt (hk.trans hcs), g3, ⟨cs, hk.trans hcs⟩, fun j hj => (World.cell?_of_block (a := ⟨g, off + j, none⟩) hk).trans (hc j hj)⟩
theorem pt_moved {w w1 : World} {base B : Nat} {l : List Int} {a : Nat} (h : PtSt w base B l a) (hm : ∀ k t, Ty w k t → t = 67 ∨ t = 5 → base ≤ k → w1.heap[k]? = w.heap[k]?) : PtSt w1 base B l a := by
  obtain ⟨A, c, h1, h2, h3, h4, ha, h5⟩ := h
  refine ⟨A, c, (hm B 67 ⟨_, h1⟩ (.inl rfl) h2).trans h1, h2, h3, h4, ha, fun hp => ?_⟩
  obtain ⟨g, off, e, g1, g2, g3, ⟨cs, hcs⟩, hc⟩ := h5 hp
  have hk := hm g 5 ⟨_, hcs⟩ (.inr rfl) g1
  exact ⟨g, off, e, g1, blk_lt (hk.trans hcs), g3, ⟨cs, hk.trans hcs⟩, fun j hj => (World.cell?_of_block (a := ⟨g, off + j, none⟩) hk).trans (hc j hj)⟩
theorem rd_keep {w w1 : World} {base B : Nat} {bs : List Int} {t0 : Nat} (h : RdSt w base B bs) (hk : Keeps w w1 t0) (h1 : 71 ≠ t0) (h2 : 5 ≠ t0) : RdSt w1 base B bs := rd_move h (fun k t ht e _ => hk k t ht (by rcases e with rfl | rfl <;> assumption))
theorem pt_keep {w w1 : World} {base B : Nat} {l : List Int} {a : Nat} {t0 : Nat} (h : PtSt w base B l a) (hk : Keeps w w1 t0) (h1 : 67 ≠ t0) (h2 : 5 ≠ t0) : PtSt w1 base B l a := pt_moved h (fun k t ht e _ => hk k t ht (by rcases e with rfl | rfl <;> assumption))
theorem us_keep {w w1 : World} {b : Nat} {v : Value} {xs : List Int} {t0 : Nat} (h : US w b v xs) (hk : Keeps w w1 t0) (h2 : 5 ≠ t0) : US w1 b v xs := h.move fun k e => hk k 5 (own_typed h k e) h2
theorem only_to {w0 w w' : World} {b B : Nat} (h : Below b w0 w) (hg : RdOnly w w' B) (hb : b ≤ B) (hs : b ≤ w.heap.size) : Below b w0 w' := h.grown hg hs (fun k hk => by injection hk with hk; omega)
theorem number_calls' (B base : Nat) (bs : List Int) (n : Int) (w : World) (h : RdSt w base B bs) (hb : ∀ x ∈ bs, 0 ≤ x ∧ x ≤ 255) (v er : Int) (bs' : List Int) (hr : numR bs n = (v, er, bs')) :
    Calls Try.prog 25 #[.pointer (some ⟨B, 0, none⟩), .int .i64 n] w fun e w' => e = .returned (.tuple #[.int .u64 v, .int .i64 er]) ∧ RdSt w' base B bs' ∧ RdOnly w w' B := by
  have := number_calls B base bs n w h hb
  rw [hr] at this
  exact this
theorem us_C {w : World} {b : Nat} {v : Value} {xs : List Int} (h : US w b v xs) : ∃ A c, v = .slice A xs.length c ∧ xs.length ≤ c ∧ (Kd.int .u8).C w A xs.length xs := Kd.R_reads (d := Kd.int .u8) (Kd.R_of_own (enc := Value.int .u8) (h1 := fun _ => rfl) (ok := fun _ => True) h (fun _ _ => trivial))
theorem bytesR_len (bs : List Int) (n : Int) : (bytesR bs n).1.length ≤ bs.length := by
  unfold bytesR
  split
  · simp
  · split
    · simp
    · simp only [List.length_take]
      omega
/-- one call of the script, in a block of its own -/
def XAt (w : World) (B : Nat) (k n : Int) : Prop := w.heap[B]? = some (.cells #[.int .i64 k, .int .i64 n] 59 (0, 0))
theorem xat_keep {w w1 : World} {B : Nat} {k n : Int} {t0 : Nat} (h : XAt w B k n) (hk : Keeps w w1 t0) (h1 : 59 ≠ t0) : XAt w1 B k n := (hk B 59 ⟨_, h⟩ h1).trans h
theorem XAt.cells {w : World} {B : Nat} {k n : Int} (h : XAt w B k n) : w.cell? ⟨B, 0, none⟩ = some (.int .i64 k) ∧ w.cell? ⟨B, 1, none⟩ = some (.int .i64 n) := by
  unfold XAt at h
  exact ⟨by simp [World.cell?, h], by simp [World.cell?, h]⟩

/-! ### the rows that are got -/
structure GSt (w : World) (b : Nat) (u : Value) (ts : List (Option Addr × Nat × Nat)) (fs : List (List Int)) : Prop where
  own : w.ownsRow b 23 1 u ts.length (encs encT ts)
  len : fs.length = ts.length
  rows : ∀ (i : Nat) t l, ts[i]? = some t → fs[i]? = some l → US w b (encT t) l
  apart : ∀ (i j : Nat) t t', ts[i]? = some t → ts[j]? = some t' → i ≠ j → (encT t).ownBlock = none ∨ (encT t).ownBlock ≠ (encT t').ownBlock
  small : ∀ l ∈ fs, l.length ≤ 1048576
theorem GSt.keep {w w1 : World} {b : Nat} {u : Value} {ts : List (Option Addr × Nat × Nat)} {fs : List (List Int)} {t0 : Nat} (h : GSt w b u ts fs) (hk : Keeps w w1 t0) (h1 : 5 ≠ t0) (h2 : 23 ≠ t0) : GSt w1 b u ts fs where
  own := own_move h.own fun k e => hk k 23 (own_typed h.own k e) h2
  len := h.len
  rows := fun i t l ht hl => us_keep (h.rows i t l ht hl) hk h1
  apart := h.apart
  small := h.small
/-- a row that is new: apart from all that are got -/
def New (ts : List (Option Addr × Nat × Nat)) (v : Value) : Prop := ∀ (i : Nat) t, ts[i]? = some t → ∀ k, (encT t).ownBlock = some k → v.ownBlock ≠ some k
theorem GSt.fresh {w w1 : World} {b : Nat} {u v : Value} {ts : List (Option Addr × Nat × Nat)} {fs : List (List Int)} {l : List Int} (h : GSt w b u ts fs) (hv : US w1 w.heap.size v l) : New ts v := by
  intro i t ht k hk e
  have hi : i < fs.length := by rw [h.len]; exact (List.getElem?_eq_some_iff.mp ht).1
  have h1 := (h.rows i t _ ht (List.getElem?_eq_getElem hi)).lt k hk
  have h2 := us_base hv k e
  omega
theorem GSt.push {w w1 : World} {b : Nat} {u u1 : Value} {ts : List (Option Addr × Nat × Nat)} {fs : List (List Int)} {t : Option Addr × Nat × Nat} {l : List Int} (h : GSt w b u ts fs) (hv : US w b (encT t) l) (hn : New ts (encT t)) (hl : l.length ≤ 1048576)
    (h1 : w1.ownsRow b 23 1 u1 (ts ++ [t]).length (encs encT (ts ++ [t]))) (hk : Keeps w w1 23) : GSt w1 b u1 (ts ++ [t]) (fs ++ [l]) where
  own := h1
  len := by simp [h.len]
  rows := by
    intro i t' l' ht hl'
    rcases Nat.lt_or_ge i ts.length with hi | hi
    · rw [List.getElem?_append_left hi] at ht
      rw [List.getElem?_append_left (by rw [h.len]; exact hi)] at hl'
      exact us_keep (h.rows i t' l' ht hl') hk (by decide)
    · rw [List.getElem?_append_right hi] at ht
      rw [List.getElem?_append_right (by rw [h.len]; exact hi), h.len] at hl'
      rcases hz : i - ts.length with _ | z
      · rw [hz] at ht hl'
        simp at ht hl'
        subst ht hl'
        exact us_keep hv hk (by decide)
      · rw [hz] at ht
        simp at ht
  apart := by
    intro i j t1 t2 h1 h2 hij
    rcases Nat.lt_or_ge i ts.length with hi | hi <;> rcases Nat.lt_or_ge j ts.length with hj | hj
    · rw [List.getElem?_append_left hi] at h1
      rw [List.getElem?_append_left hj] at h2
      exact h.apart i j t1 t2 h1 h2 hij
    · rw [List.getElem?_append_left hi] at h1
      rw [List.getElem?_append_right hj] at h2
      rcases hz : j - ts.length with _ | z
      · rw [hz] at h2
        simp at h2
        subst h2
        rcases hk : (encT t1).ownBlock with _ | k
        · exact .inl rfl
        · exact .inr (fun e => hn i t1 h1 k hk e.symm)
      · rw [hz] at h2; simp at h2
    · rw [List.getElem?_append_right hi] at h1
      rw [List.getElem?_append_left hj] at h2
      rcases hz : i - ts.length with _ | z
      · rw [hz] at h1
        simp at h1
        subst h1
        rcases hk : (encT t).ownBlock with _ | k
        · exact .inl rfl
        · exact .inr (fun e => hn j t2 h2 k e.symm hk)
      · rw [hz] at h1; simp at h1
    · rw [List.getElem?_append_right hi] at h1
      rw [List.getElem?_append_right hj] at h2
      rcases hz : i - ts.length with _ | z <;> rcases hy : j - ts.length with _ | y
      · omega
      · rw [hy] at h2; simp at h2
      · rw [hz] at h1; simp at h1
      · rw [hz] at h1; simp at h1
  small := by
    intro x hx
    rcases List.mem_append.mp hx with hx | hx
    · exact h.small x hx
    · rw [List.mem_singleton.mp hx]; exact hl
/-- what Own is handed -/
theorem GSt.owned {w : World} {b : Nat} {u : Value} {ts : List (Option Addr × Nat × Nat)} {fs : List (List Int)} (h : GSt w b u ts fs) (hb : b ≤ w.heap.size) (hn : ts.length ≤ 1048576) :
    ∃ A c, u = .slice A ts.length c ∧ Calls Try.prog 17 #[.slice A ts.length c] w fun e w' => e = .returned (.bool true) ∧ Below b w w' := by
  have hrows : Rows w b (ts.map encT) (fun i => fs.getD i []) := by
    intro i v hv
    rw [List.getElem?_map] at hv
    rcases ht : ts[i]? with _ | t
    · rw [ht] at hv; cases hv
    · rw [ht] at hv
      simp at hv
      subst hv
      have hi : i < fs.length := by rw [h.len]; exact (List.getElem?_eq_some_iff.mp ht).1
      have := h.rows i t _ ht (List.getElem?_eq_getElem hi)
      simpa [List.getD_eq_getElem?_getD, List.getElem?_eq_getElem hi] using this
  have hsm : ∀ i, ((fun i => fs.getD i []) i : List Int).length ≤ 140737488355300 := by
    intro i
    show (fs.getD i []).length ≤ _
    rw [List.getD_eq_getElem?_getD]
    rcases hx : fs[i]? with _ | x
    · simp
    · have := h.small x (List.mem_of_getElem? hx)
      simp
      omega
  rcases h.own.2 with ⟨rfl, h0⟩ | ⟨g, cap, cur, rfl, hbg, hg, hnc, hcm, hcs, htake⟩
  · have hts : ts = [] := List.eq_nil_of_length_eq_zero h0
    subst hts
    exact ⟨none, 0, rfl, own_calls w b 0 0 none [] _ hrows ⟨by simp, by simp⟩ (by intro i v hv; simp at hv) hb (by simp) hsm⟩
  · refine ⟨_, _, rfl, ?_⟩
    have hap : Apart (ts.map encT) g := by
      refine ⟨?_, ?_⟩
      · intro i j v v' hv hv' hij
        rw [List.getElem?_map] at hv hv'
        rcases ht : ts[i]? with _ | t
        · rw [ht] at hv; cases hv
        · rcases ht' : ts[j]? with _ | t'
          · rw [ht'] at hv'; cases hv'
          · rw [ht] at hv
            rw [ht'] at hv'
            simp at hv hv'
            subst hv hv'
            exact h.apart i j t t' ht ht' hij
      · intro i v hv e
        have hus := hrows i v hv
        rcases typed_ne hus h.own with hz | hz
        · rw [hz] at e; cases e
        · exact hz e
    have hla : ListAt w (some ⟨g, 0, none⟩) g (ts.map encT) := by
      intro i v hv
      refine ⟨_, rfl, by unfold Addr.add; split <;> rfl, ?_⟩
      exact h.own.cells (g := g) rfl i v (by rw [← hv]; simp [encs])
    have hlen : (ts.map encT).length = ts.length := by simp
    have := own_calls w b g cap (some ⟨g, 0, none⟩) (ts.map encT) _ hrows hap hla hb (by rw [hlen]; omega) hsm
    rw [hlen] at this
    exact this

/-! ### the script -/
structure Cl where
  k : Int
  n : Int
def Cl.cs (p : Cl) : List Value := [.int .i64 p.k, .int .i64 p.n]
/-- a call of the script, as its two cells lie -/
def clK : Kd Cl where
  sz := 2
  E := []
  K := fun _ x cs => cs = x.cs
  M := fun _ _ _ x cs => cs = x.cs
  K_len := fun h => by rw [h]; rfl
  K_one := fun h u hu => by
    rw [h] at hu
    simp only [Cl.cs, List.mem_cons, List.not_mem_nil, or_false] at hu
    rcases hu with rfl | rfl <;> rfl
  K_below := fun _ h => h
  K_of_M := fun h => h
  M_mono := fun _ h => h
  M_bound := fun h => h
  M_move := fun _ h => h
  M_lower := fun _ h => h
theorem cl_spot {w : World} {a : Addr} {v : Value} (h : w.cell? a = some v) : w.cell? ⟨a.block, a.off, none⟩ = some v := by
  unfold World.cell? at h ⊢
  show (match w.heap[a.block]? with | some (.cells c _ _) => if (none : Option Nat).isSome then none else c[a.off]? | _ => none) = some v
  revert h
  rcases w.heap[a.block]? with _ | o
  · simp
  · cases o <;> simp
theorem cl_off {w : World} {a : Addr} {k j : Nat} {v : Value} (h : w.cell? (a.add (k + j)) = some v) : w.cell? ⟨(a.add k).block, (a.add k).off + j, none⟩ = some v := by
  have e : ∀ i, (a.add i).block = a.block ∧ (a.add i).off = a.off + i := fun i => by unfold Addr.add; split <;> simp_all
  have h := cl_spot h
  rw [(e (k + j)).1, (e (k + j)).2] at h
  rw [(e k).1, (e k).2, Nat.add_assoc]
  exact h
structure ClAt (w : World) (ad : Addr) (i : Nat) (p : Cl) : Prop where
  x0 : w.cell? (ad.add (i * 2)) = some (.int .i64 p.k)
  y0 : w.cell? ⟨(ad.add (i * 2)).block, (ad.add (i * 2)).off, none⟩ = some (.int .i64 p.k)
  x1 : w.cell? ⟨(ad.add (i * 2)).block, (ad.add (i * 2)).off + 1, none⟩ = some (.int .i64 p.n)
theorem ClAt.below {w w1 : World} {ad : Addr} {i : Nat} {p : Cl} (h : ClAt w ad i p) {b : Nat} (hB : Below w.heap.size w w1) : ClAt w1 ad i p :=
  ⟨pw_cell_below hB h.x0, pw_cell_below hB h.y0, pw_cell_below hB h.x1⟩
theorem cl_at {w : World} {A : Option Addr} {n : Nat} {ps : List Cl} (h : clK.C w A n ps) (i : Nat) (p : Cl) (hi : ps[i]? = some p) : ∃ ad, A = some ad ∧ ClAt w ad i p := by
  have hl : i < ps.length := (List.getElem?_eq_some_iff.mp hi).1
  obtain ⟨ad, e, hc⟩ := h.2.2 (by have := h.1; omega)
  obtain ⟨c, _, hk, hcell⟩ := hc i p hi
  have hk : c = p.cs := hk
  subst hk
  exact ⟨ad, e, hcell 0 _ rfl, cl_spot (hcell 0 _ rfl), cl_off (hcell 1 _ rfl)⟩
theorem rd_far {w : World} {base B : Nat} {bs : List Int} (h : RdSt w base B bs) {p : Addr} (hp : p.block < base) (v : Value) : RdSt (w.setCell p v) base B bs := rd_move h (fun k t _ _ hk => Below.heap_setCell w p v k (by omega))
theorem pt_far {w : World} {base B : Nat} {l : List Int} {a : Nat} (h : PtSt w base B l a) {p : Addr} (hp : p.block < base) (v : Value) : PtSt (w.setCell p v) base B l a := pt_moved h (fun k t _ _ hk => Below.heap_setCell w p v k (by omega))
theorem put_k {w : World} {b g n c : Nat} {ok : Nat → Prop} {xs : List Int} (h : (Kd.int .u8).R 5 w b ok (.slice (some ⟨g, 0, none⟩) n c) xs) (k : Nat) (x : Int) : (Kd.int .u8).R 5 (w.setCell ⟨g, k, none⟩ (.int .u8 x)) b ok (.slice (some ⟨g, 0, none⟩) n c) (xs.set k x) := by
  have := (Kd.R_putg h (k : Int) x).1
  rw [Int.toNat_natCast] at this
  exact this
theorem gst_nil (w : World) (b : Nat) : GSt w b (.slice none 0 0) [] [] := ⟨World.ownsRow_nil _ _ _ _, rfl, by simp, by simp, by simp⟩
theorem us_low {w : World} {b b' : Nat} {v : Value} {xs : List Int} (h : US w b' v xs) (hb : b ≤ b') : US w b v xs := own_weaken h hb

set_option maxRecDepth 1000000 in
set_option maxHeartbeats 2000000 in
theorem reads_walk (w : World) (A0 : Option Addr) (c0 : Nat) (l : List Int) (hC : (Kd.int .u8).C w A0 l.length l) (hc : l.length ≤ c0) (hl : l.length ≤ 1048576) (hby : ∀ x ∈ l, 0 ≤ x ∧ x ≤ 255)
    (A1 : Option Addr) (c1 : Nat) (ps : List Cl) (hC1 : clK.C w A1 ps.length ps) (hc1 : ps.length ≤ c1) (hn : ps.length ≤ 1048576) (kc kp ks : Nat) (hcopy : ∀ m : List Int, m.length ≤ 1048576 → tappetref01_Copy.f kc m = some m)
    (hplain : ∀ s : ByteArray, s.size ≤ 255 → tappetref01_Plain.f kp s = some (plainB s)) (hsame : ∀ m : List Int, m.length ≤ 1048576 → tappetref01_Same.f ks m m = some true) :
    Calls Try.prog 7 #[.slice A0 l.length c0, .slice A1 ps.length c1] w fun e w' => e = .returned (.bool true) ∧ Below w.heap.size w w' := by
  have HC0 := Aside0.mk hC
  have HC1 := Aside0.mk hC1
  have HBY := Aside0.mk hby
  have HCP := Aside0.mk hcopy
  have HPL := Aside0.mk hplain
  have HSM := Aside0.mk hsame
  have HL := Aside0.mk hl
  clear hC hC1 hby hcopy hplain hsame
  go_enter Try.func7, Try.ntmps7
  go_wp2_with fail
  refine (tappetref01_Copy.calls kc A0 c0 l l _ HC0.out hc (HCP.out l hl)).mono ?_
  rintro e w1 ⟨v1, rfl, R1, B1⟩
  have H1 := Aside0.mk R1
  have HB1 := Aside0.mk B1
  clear R1 B1
  have hpn := ptr_nil
  go_wp2_with ((with_reducible refine gate_builtin (b := .append) (xs := #[.tmp 28, .tmp 29]) rfl ?_); at_builtin; refine Kd.R_append (Kd.int .u8) (w0 := w) w.heap.size rfl (.tmp 28) (.tmp 29) 23 5 (.int .u8 0) 1 rfl (by kernel_rfl) rd_info5 rfl (by decide) (by omega) v1 l 90 [.int .u8 90] (fun _ => True) (fun _ => False) rfl rfl rfl (fun _ h => h.elim) (fun _ _ => trivial) H1.out HB1.out HB1.out.size ?hl ?_; (case hl => have := HL.out; omega); intro v2 w2 HR2 HB2 HG2 HA2; have HRa := Aside0.mk HR2; have HBa := Aside0.mk HB2; clear HR2 HB2 HG2 HA2)
  obtain ⟨gi, ci, ei, hgi1, hgi2, _⟩ := Kd.R_form HRa.out (by simp)
  obtain ⟨M, hlen1, hM⟩ : ∃ M, (l ++ [90]).length = M ∧ M = l.length + 1 := ⟨_, rfl, by simp⟩
  have HM := Aside0.mk hM
  rw [hlen1] at ei
  subst ei
  clear hpn
  obtain ⟨hcz, hci, hCi⟩ := Kd.R_reads' HRa.out
  clear hcz
  have HCi := Aside0.mk (Kd.C_take (m := l.length) hCi (by simp))
  rw [List.take_left' rfl] at HCi
  have Hci := Aside0.mk hci
  have hML : l.length ≤ M := by omega
  have hcut : ∀ W, (Instr.slice 23 (.slice (some ⟨gi, 0, none⟩) M ci) none (some (.int .i64 (l.length : Int))) none).run Try.prog W = .ok (.slice (some ⟨gi, 0, none⟩) l.length ci) W := by
    intro W
    obtain ⟨i0, hi0, _, hsz, _⟩ := info_parts rd_info5
    have h := cut_to (P := Try.prog) 23 5 .i64 Try.underlying23 hi0 (some ⟨gi, 0, none⟩) M ci (l.length : Int) (by omega) (by omega) hci W
    simpa using h
  clear hCi hlen1 hM
  go_wp2_with fail
  simp only [hcut]
  go_wp2_with fail
  refine (newReader_calls (some ⟨gi, 0, none⟩) ci l _ HCi.out (by have := Hci.out; have := HM.out; omega) (by omega)).mono ?_
  rintro e w3 ⟨BR, rfl, S3, B3⟩
  obtain ⟨bR, hbR, hgR⟩ : ∃ bR, Aside0 (RdSt w3 bR BR l) ∧ gi < bR := ⟨w2.heap.size, ⟨S3⟩, hgi2⟩
  have HR3 := Aside0.mk (Kd.R_below HRa.out B3)
  have HB3 := Aside0.mk (HBa.out.trans (B3.mono HBa.out.size))
  have hsz3 := Aside0.mk B3.size
  clear S3 B3 hML hci hcut HRa HBa HCi
  have hpn := ptr_nil
  go_wp2_with fail
  refine (new_calls kc A0 c0 l _ (Kd.C_below HC0.out HB3.out) hc (by omega) (HCP.out l hl)).mono ?_
  rintro e w4 ⟨BP, rfl, S4, B4⟩
  obtain ⟨bP, hbP, hgP⟩ : ∃ bP, Aside0 (PtSt w4 bP BP l 0) ∧ gi < bP := ⟨w3.heap.size, ⟨S4⟩, Nat.lt_of_lt_of_le hgi2 hsz3.out⟩
  have HR4 := Aside0.mk (Kd.R_below HR3.out B4)
  have HBR4 := Aside0.mk (hbR.out.below B4)
  have HB4 := Aside0.mk (HB3.out.trans (B4.mono HB3.out.size))
  clear S4 B4 HB3 HR3 hbR hgi2 hsz3
  go_wp2_with fail
  go_loopw [8] (fun i wr => ∃ (k : Nat) (xs : List Int), k ≤ M ∧ i = .int .i64 k ∧ Aside0 ((Kd.int .u8).R 5 wr w.heap.size (fun _ => True) (.slice (some ⟨gi, 0, none⟩) M ci) xs) ∧ Aside0 (RdSt wr bR BR l) ∧ Aside0 (PtSt wr bP BP l 0) ∧ Aside0 (Below w.heap.size w wr)) (fun i _ => M - (intOf i).toNat)
  case atStart => exact ⟨0, _, by omega, rfl, HR4, HBR4, hbP, HB4⟩
  case round =>
    clear HR4 HBR4 hbP HB4
    obtain ⟨k, xs, hk, rfl, HR, HRD, HPT, HB⟩ := hrel
    have hMM : M ≤ 1048577 := by have := HM.out; omega
    by_cases hlt : k < M
    · have hd : decide ((k : Int) < (M : Int)) = true := decide_eq_true (by omega)
      have p15 : (0 : Int) ≤ (k : Int) := by omega
      have q15 : (k : Int) < (M : Int) := by omega
      obtain ⟨hx0, hf0⟩ := Kd.R_celln 0 HR.out (k : Int) p15 q15
      rw [Int.toNat_natCast] at hx0 hf0
      have HLT := Aside0.mk (Nat.succ_le_of_lt hlt)
      go_wp2_with fail
      go_roundw
      case rel => exact ⟨k + 1, _, HLT.out, by go_num, ⟨put_k HR.out k _⟩, ⟨rd_far HRD.out hgR _⟩, ⟨pt_far HPT.out hgP _⟩, ⟨below_set HB.out hgi1⟩⟩
      case measure => have := HLT.out; simp [intOf]; omega
    · have hd : decide ((k : Int) < (M : Int)) = false := decide_eq_false (by omega)
      clear HR hMM
      go_wp2_with fail
      go_loopw [9, 10] (fun u i wq => ∃ (j a : Nat) (ts : List (Option Addr × Nat × Nat)) (fs : List (List Int)), j ≤ ps.length ∧ i = .int .i64 j ∧ ts.length ≤ j ∧ a ≤ l.length ∧ Aside0 (GSt wq w.heap.size u ts fs) ∧ Aside0 (RdSt wq bR BR (l.drop a)) ∧ Aside0 (PtSt wq bP BP l a) ∧ Aside0 (Below w.heap.size w wq)) (fun _ i _ => ps.length - (intOf i).toNat)
      case atStart => exact ⟨0, 0, [], [], by omega, rfl, by simp, by omega, ⟨gst_nil _ _⟩, ⟨by rw [List.drop_zero]; exact HRD.out⟩, HPT, HB⟩
      case round =>
        clear HRD HPT HB
        obtain ⟨j, a, ts, fs, hj, rfl, hts, ha, HG, HRD, HPT, HB⟩ := hrel
        by_cases hlt : j < ps.length
        · have hd2 : decide ((j : Int) < (ps.length : Int)) = true := decide_eq_true (by omega)
          have hpk : ps[j]? = some ps[j] := List.getElem?_eq_getElem hlt
          obtain ⟨ad, e1, hat⟩ := cl_at (Kd.C_below HC1.out HB.out) j _ hpk
          cases e1
          have HJ := Aside0.mk (Nat.succ_le_of_lt hlt)
          clear hpk
          generalize hp : ps[j] = p at *
          clear hp
          have HAT := Aside0.mk hat
          have HTS := Aside0.mk hts
          have HW := Aside0.mk (show w.heap.size ≤ BR ∧ w.heap.size ≤ BP ∧ w.heap.size ≤ wr.heap.size by
            obtain ⟨_, _, _, h1, _⟩ := HRD.out
            obtain ⟨_, _, _, h2, _⟩ := HPT.out
            exact ⟨by omega, by omega, HB.out.size⟩)
          have hba : Below wr.heap.size wr (wr.alloc (.cells #[.int .i64 p.k, .int .i64 p.n] 59)) := (Below.refl _ _).alloc (Nat.le_refl _) _
          have HG1 := Aside0.mk (HG.out.keep (t0 := 0) (keeps_below hba 0) (by decide) (by decide))
          have HRD1 := Aside0.mk (HRD.out.below hba)
          have HPT1 := Aside0.mk (HPT.out.below hba)
          have HBa := Aside0.mk (HB.out.trans (hba.mono HB.out.size))
          have HXA := Aside0.mk (show XAt (wr.alloc (.cells #[.int .i64 p.k, .int .i64 p.n] 59)) wr.heap.size p.k p.n from heap_alloc_new wr _)
          have HD8 := Aside0.mk (show ∀ x ∈ l.drop a, 0 ≤ x ∧ x ≤ 255 from fun x hx => HBY.out x (List.mem_of_mem_drop hx))
          clear hat hba HG HRD HPT HB
          obtain ⟨x0, y0, x1⟩ := HAT.out
          by_cases c1 : p.k = 1
          · have c1b : (p.k == 1) = true := by simp [c1]
            obtain ⟨v, er, bs', hnr⟩ : ∃ v er bs', numR (l.drop a) p.n = (v, er, bs') := ⟨_, _, _, rfl⟩
            have HN1 := Aside0.mk (number_calls' BR bR (l.drop a) p.n _ HRD1.out HD8.out v er bs' hnr)
            have HNR := Aside0.mk hnr
            clear hnr c1
            go_wp2_with fail
            generalize hWA : wr.alloc (.cells #[.int .i64 p.k, .int .i64 p.n] 59) = wa at *
            generalize hXB : wr.heap.size = xB at *
            clear hWA hXB
            refine HN1.out.mono ?_
            rintro e wb ⟨rfl, S2, O2⟩
            have hk := keeps_rd HRD1.out O2
            have HRD2 := Aside0.mk S2
            have HPT2 := Aside0.mk (pt_keep HPT1.out hk (by decide) (by decide))
            have HG2 := Aside0.mk (HG1.out.keep hk (by decide) (by decide))
            have HXB := Aside0.mk (xat_keep HXA.out hk (by decide))
            have HBb := Aside0.mk (only_to HBa.out O2 HW.out.1 HBa.out.size)
            clear S2 O2 hk HRD1 HPT1 HG1 HXA HBa HN1
            obtain ⟨z0, z1⟩ := HXB.out.cells
            go_wp2_with fail
            refine (pnumber_calls BP bP l a p.n _ HPT2.out HBY.out v er bs' HNR.out).mono ?_
            rintro e wc ⟨rfl, ⟨b, S3, hb'⟩, O3⟩
            have hk := keeps_pt HPT2.out O3
            have HRD3 := Aside0.mk (show RdSt wc bR BR (l.drop b) by rw [← hb']; exact rd_keep HRD2.out hk (by decide) (by decide))
            have HPT3 := Aside0.mk S3
            have HG3 := Aside0.mk (HG2.out.keep hk (by decide) (by decide))
            have HBc := Aside0.mk (only_to HBb.out O3 HW.out.2.1 HBb.out.size)
            clear S3 O3 hk hb' HRD2 HPT2 HG2 HXB HBb z0 z1 HNR
            have hvv : (v != v) = false := bne_self_eq_false _
            have hee : (er != er) = false := bne_self_eq_false _
            have hala : b ≤ l.length := by obtain ⟨_, _, _, _, _, _, _, _, h, _⟩ := HPT3.out.cells; exact h
            obtain ⟨AP, cP, k0, k1, m1, m2, m3, m4, m5, m6⟩ := HPT3.out.cells
            clear m1 m2 m3 m4 m5 m6
            obtain ⟨q, hq⟩ : ∃ q, (l.drop b).length = q := ⟨_, rfl⟩
            have hq2 : q = l.length - b := by rw [← hq, List.length_drop]
            have e1 : IntKind.i64.wrap ((l.length : Int) - b) = q := by rw [IntKind.wrap_i64]; omega
            have eq1 : ((q : Int) != q) = false := bne_self_eq_false _
            have HAL := Aside0.mk hala
            have HQ := Aside0.mk hq
            have HNE := Aside0.mk (show endE (l.drop b) = if b < l.length then 11 else 0 by
              unfold endE
              by_cases h : b < l.length
              · rw [if_pos h, if_neg (fun e => by have := congrArg List.length e; rw [List.length_drop] at this; simp at this; omega)]
              · rw [if_neg h, if_pos (List.drop_eq_nil_of_le (by omega))])
            clear hq2 hq
            by_cases hend : b < l.length
            · have HEE := Aside0.mk (show endE (l.drop b) = 11 by rw [HNE.out, if_pos hend])
              have e2 : decide ((b : Int) < (l.length : Int)) = true := decide_eq_true (by omega)
              clear hala HNE
              go_wp2_with fail
              repeat (go_quiet (fail))
              have hb3 : Below wc.heap.size wc (wc.drewN nq) := below_drewN (Below.refl _ _) nq
              have HR9 := Aside0.mk (HRD3.out.below hb3)
              have HP9 := Aside0.mk (HPT3.out.below hb3)
              have HG9 := Aside0.mk (HG3.out.keep (t0 := 0) (keeps_below hb3 0) (by decide) (by decide))
              have HB9 := Aside0.mk (HBc.out.trans (hb3.mono HBc.out.size))
              replace k0 := pw_cell_below hb3 k0
              replace k1 := pw_cell_below hb3 k1
              clear hb3 HRD3 HPT3 HG3 HBc
              generalize wc.drewN nq = wd at *
              have HLf := Aside0.mk (show ∀ n, Calls Try.prog 28 #[.pointer (some ⟨BR, 0, none⟩)] (wd.drewN n) fun e w' => e = .returned (.int .i64 (q : Int)) ∧ w' = wd.drewN n from fun n => by
                have h := left_calls BR bR (l.drop b) _ (HR9.out.below (below_drewN (Below.refl _ _) n))
                rw [HQ.out] at h
                exact h.mono (fun _ _ h => ⟨h.1, h.2.symm⟩))
              have HEn := Aside0.mk (show ∀ n, Calls Try.prog 27 #[.pointer (some ⟨BR, 0, none⟩)] (wd.drewN n) fun e w' => e = .returned (.int .i64 11) ∧ w' = wd.drewN n from fun n => by
                have h := end_calls BR bR (l.drop b) _ (HR9.out.below (below_drewN (Below.refl _ _) n))
                rw [HEE.out] at h
                exact h.mono (fun _ _ h => ⟨h.1, h.2.symm⟩))
              go_wp2_with fail
              go_quiet (first | (go_at_call 28; exact Calls.quiet_of_same (HLf.out _)) | (go_at_call 27; exact Calls.quiet_of_same (HEn.out _)))
              go_wp2_with fail
              have hb4 : Below wd.heap.size wd (wd.drewN nq) := below_drewN (Below.refl _ _) nq
              have HR8 := Aside0.mk (HR9.out.below hb4)
              have HP8 := Aside0.mk (HP9.out.below hb4)
              have HG8 := Aside0.mk (HG9.out.keep (t0 := 0) (keeps_below hb4 0) (by decide) (by decide))
              have HB8 := Aside0.mk (HB9.out.trans (hb4.mono HB9.out.size))
              go_roundw
              case rel => exact ⟨j + 1, b, _, _, HJ.out, by go_num, Nat.le_succ_of_le HTS.out, HAL.out, HG8, HR8, HP8, HB8⟩
              case measure => have := HJ.out; simp [intOf]; omega
            · have HEE := Aside0.mk (show endE (l.drop b) = 0 by rw [HNE.out, if_neg hend])
              have e2 : decide ((b : Int) < (l.length : Int)) = false := decide_eq_false (by omega)
              clear hala HNE
              go_wp2_with fail
              repeat (go_quiet (fail))
              have hb3 : Below wc.heap.size wc (wc.drewN nq) := below_drewN (Below.refl _ _) nq
              have HR9 := Aside0.mk (HRD3.out.below hb3)
              have HP9 := Aside0.mk (HPT3.out.below hb3)
              have HG9 := Aside0.mk (HG3.out.keep (t0 := 0) (keeps_below hb3 0) (by decide) (by decide))
              have HB9 := Aside0.mk (HBc.out.trans (hb3.mono HBc.out.size))
              replace k0 := pw_cell_below hb3 k0
              replace k1 := pw_cell_below hb3 k1
              clear hb3 HRD3 HPT3 HG3 HBc
              generalize wc.drewN nq = wd at *
              have HLf := Aside0.mk (show ∀ n, Calls Try.prog 28 #[.pointer (some ⟨BR, 0, none⟩)] (wd.drewN n) fun e w' => e = .returned (.int .i64 (q : Int)) ∧ w' = wd.drewN n from fun n => by
                have h := left_calls BR bR (l.drop b) _ (HR9.out.below (below_drewN (Below.refl _ _) n))
                rw [HQ.out] at h
                exact h.mono (fun _ _ h => ⟨h.1, h.2.symm⟩))
              have HEn := Aside0.mk (show ∀ n, Calls Try.prog 27 #[.pointer (some ⟨BR, 0, none⟩)] (wd.drewN n) fun e w' => e = .returned (.int .i64 0) ∧ w' = wd.drewN n from fun n => by
                have h := end_calls BR bR (l.drop b) _ (HR9.out.below (below_drewN (Below.refl _ _) n))
                rw [HEE.out] at h
                exact h.mono (fun _ _ h => ⟨h.1, h.2.symm⟩))
              go_wp2_with fail
              go_quiet (first | (go_at_call 28; exact Calls.quiet_of_same (HLf.out _)) | (go_at_call 27; exact Calls.quiet_of_same (HEn.out _)))
              go_wp2_with fail
              have hb4 : Below wd.heap.size wd (wd.drewN nq) := below_drewN (Below.refl _ _) nq
              have HR8 := Aside0.mk (HR9.out.below hb4)
              have HP8 := Aside0.mk (HP9.out.below hb4)
              have HG8 := Aside0.mk (HG9.out.keep (t0 := 0) (keeps_below hb4 0) (by decide) (by decide))
              have HB8 := Aside0.mk (HB9.out.trans (hb4.mono HB9.out.size))
              go_roundw
              case rel => exact ⟨j + 1, b, _, _, HJ.out, by go_num, Nat.le_succ_of_le HTS.out, HAL.out, HG8, HR8, HP8, HB8⟩
              case measure => have := HJ.out; simp [intOf]; omega
          · have c1b : (p.k == 1) = false := by simp [c1]
            by_cases c2 : p.k = 2
            · have c2b : (p.k == 2) = true := by simp [c2]
              obtain ⟨lb, er, bs', hnr⟩ : ∃ v er bs', bytesR (l.drop a) p.n = (v, er, bs') := ⟨_, _, _, rfl⟩
              have hlb : lb.length ≤ 1048576 := by
                have h := bytesR_len (l.drop a) p.n
                rw [hnr, List.length_drop] at h
                simp only at h
                omega
              have HLB := Aside0.mk hlb
              have HN1 := Aside0.mk (bytes_calls BR bR (l.drop a) p.n _ HRD1.out lb er bs' hnr)
              have HNR := Aside0.mk hnr
              clear hnr c1 c2 hlb
              go_wp2_with fail
              generalize hWA : wr.alloc (.cells #[.int .i64 p.k, .int .i64 p.n] 59) = wa at *
              generalize hXB : wr.heap.size = xB at *
              clear hWA hXB
              refine HN1.out.mono ?_
              rintro e wb ⟨v, rfl, R2, S2, O2⟩
              have hk := keeps_rd HRD1.out O2
              have HU2 := Aside0.mk (us_of R2 (Nat.le_refl _))
              have HNW := Aside0.mk (HG1.out.fresh HU2.out)
              have HRD2 := Aside0.mk S2
              have HPT2 := Aside0.mk (pt_keep HPT1.out hk (by decide) (by decide))
              have HG2 := Aside0.mk (HG1.out.keep hk (by decide) (by decide))
              have HXB := Aside0.mk (xat_keep HXA.out hk (by decide))
              have HBb := Aside0.mk (only_to HBa.out O2 HW.out.1 HBa.out.size)
              have HUL := Aside0.mk (us_low HU2.out HBa.out.size)
              obtain ⟨Av, cv, ev⟩ := Kd.R_slice R2
              subst ev
              clear R2 S2 O2 hk HRD1 HPT1 HG1 HXA HBa HN1 HU2
              obtain ⟨z0, z1⟩ := HXB.out.cells
              go_wp2_with fail
              refine (pbytes_calls kc BP bP l a p.n _ HPT2.out lb er bs' HNR.out (HCP.out lb HLB.out)).mono ?_
              rintro e wc ⟨v', rfl, R3, ⟨b, S3, hb'⟩, O3⟩
              have hk := keeps_pt HPT2.out O3
              have HU3 := Aside0.mk (us_keep HUL.out hk (by decide))
              have HRD3 := Aside0.mk (show RdSt wc bR BR (l.drop b) by rw [← hb']; exact rd_keep HRD2.out hk (by decide) (by decide))
              have HPT3 := Aside0.mk S3
              have HG3 := Aside0.mk (HG2.out.keep hk (by decide) (by decide))
              have HBc := Aside0.mk (only_to HBb.out O3 HW.out.2.1 HBb.out.size)
              obtain ⟨Aw, cw, ew, hcw, hCw⟩ := Kd.R_reads R3
              subst ew
              obtain ⟨Av', cv', ev, hcv, hCv⟩ := us_C HU3.out
              injection ev with ev1 ev2 ev3
              subst ev1 ev3
              clear ev2
              have HSA := Aside0.mk (tappetref01_Same.calls ks Av cv lb Aw cw lb true _ hCv hcv hCw hcw (HSM.out lb HLB.out))
              clear R3 S3 O3 hk hb' HRD2 HPT2 HG2 HXB HBb z0 z1 HNR hcw hCw hcv hCv HUL
              have hee : (er != er) = false := bne_self_eq_false _
              go_wp2_with fail
              refine HSA.out.mono ?_
              rintro e wd ⟨rfl, ⟨nd, rfl⟩⟩
              have hb5 : Below wc.heap.size wc (wc.drewN nd) := below_drewN (Below.refl _ _) nd
              have HU4 := Aside0.mk (HU3.out.below hb5)
              have HRD4 := Aside0.mk (HRD3.out.below hb5)
              have HPT4 := Aside0.mk (HPT3.out.below hb5)
              have HG4 := Aside0.mk (HG3.out.keep (t0 := 0) (keeps_below hb5 0) (by decide) (by decide))
              have HBd := Aside0.mk (HBc.out.trans (hb5.mono HBc.out.size))
              clear hb5 HRD3 HPT3 HG3 HBc HU3 HSA
              generalize wc.drewN nd = wd at *
              go_wp2_with ((with_reducible refine gate_builtin (b := .append) (xs := #[.tmp 116, .tmp 118]) rfl ?_); at_builtin; refine print_append_of (w0 := wd) encT w.heap.size rfl (.tmp 116) (.tmp 118) 33 23 (.slice none 0 0) 24 rfl Try.underlying33 info23 rfl (by decide) _ ts (Av, lb.length, cv) rfl rfl rfl HG4.out.own (Below.refl _ _) HBd.out.size ?hul ?_; (case hul => have h1 := HTS.out; have h2 := HJ.out; omega); intro u1 we h1 hzz hg1 hyy; have hk := keeps_grown hg1 (fun k hk => own_typed HG4.out.own k hk); have HG5 := Aside0.mk (HG4.out.push (t := (Av, lb.length, cv)) (l := lb) HU4.out HNW.out HLB.out h1 hk); have HRD5 := Aside0.mk (rd_keep HRD4.out hk (by decide) (by decide)); have HPT5 := Aside0.mk (pt_keep HPT4.out hk (by decide) (by decide)); have HBe := Aside0.mk (HBd.out.grown hg1 HBd.out.size (fun k hk => own_base HG4.out.own k hk)); clear h1 hzz hg1 hyy hk HG4 HRD4 HPT4 HBd HU4)
              have hala : b ≤ l.length := by obtain ⟨_, _, _, _, _, _, _, _, h, _⟩ := HPT5.out.cells; exact h
              obtain ⟨AP, cP, k0, k1, m1, m2, m3, m4, m5, m6⟩ := HPT5.out.cells
              clear m1 m2 m3 m4 m5 m6
              obtain ⟨q, hq⟩ : ∃ q, (l.drop b).length = q := ⟨_, rfl⟩
              have hq2 : q = l.length - b := by rw [← hq, List.length_drop]
              have e1 : IntKind.i64.wrap ((l.length : Int) - b) = q := by rw [IntKind.wrap_i64]; omega
              have eq1 : ((q : Int) != q) = false := bne_self_eq_false _
              have HAL := Aside0.mk hala
              have HQ := Aside0.mk hq
              have HNE := Aside0.mk (show endE (l.drop b) = if b < l.length then 11 else 0 by
                unfold endE
                by_cases h : b < l.length
                · rw [if_pos h, if_neg (fun e => by have := congrArg List.length e; rw [List.length_drop] at this; simp at this; omega)]
                · rw [if_neg h, if_pos (List.drop_eq_nil_of_le (by omega))])
              clear hq2 hq
              by_cases hend : b < l.length
              · have HEE := Aside0.mk (show endE (l.drop b) = 11 by rw [HNE.out, if_pos hend])
                have e2 : decide ((b : Int) < (l.length : Int)) = true := decide_eq_true (by omega)
                clear hala HNE
                go_wp2_with fail
                repeat (go_quiet (fail))
                have hb3 : Below we.heap.size we (we.drewN nq) := below_drewN (Below.refl _ _) nq
                have HR9 := Aside0.mk (HRD5.out.below hb3)
                have HP9 := Aside0.mk (HPT5.out.below hb3)
                have HG9 := Aside0.mk (HG5.out.keep (t0 := 0) (keeps_below hb3 0) (by decide) (by decide))
                have HB9 := Aside0.mk (HBe.out.trans (hb3.mono HBe.out.size))
                replace k0 := pw_cell_below hb3 k0
                replace k1 := pw_cell_below hb3 k1
                clear hb3 HRD5 HPT5 HG5 HBe
                generalize we.drewN nq = wd at *
                have HLf := Aside0.mk (show ∀ n, Calls Try.prog 28 #[.pointer (some ⟨BR, 0, none⟩)] (wd.drewN n) fun e w' => e = .returned (.int .i64 (q : Int)) ∧ w' = wd.drewN n from fun n => by
                  have h := left_calls BR bR (l.drop b) _ (HR9.out.below (below_drewN (Below.refl _ _) n))
                  rw [HQ.out] at h
                  exact h.mono (fun _ _ h => ⟨h.1, h.2.symm⟩))
                have HEn := Aside0.mk (show ∀ n, Calls Try.prog 27 #[.pointer (some ⟨BR, 0, none⟩)] (wd.drewN n) fun e w' => e = .returned (.int .i64 11) ∧ w' = wd.drewN n from fun n => by
                  have h := end_calls BR bR (l.drop b) _ (HR9.out.below (below_drewN (Below.refl _ _) n))
                  rw [HEE.out] at h
                  exact h.mono (fun _ _ h => ⟨h.1, h.2.symm⟩))
                go_wp2_with fail
                go_quiet (first | (go_at_call 28; exact Calls.quiet_of_same (HLf.out _)) | (go_at_call 27; exact Calls.quiet_of_same (HEn.out _)))
                go_wp2_with fail
                have hb4 : Below wd.heap.size wd (wd.drewN nq) := below_drewN (Below.refl _ _) nq
                have HR8 := Aside0.mk (HR9.out.below hb4)
                have HP8 := Aside0.mk (HP9.out.below hb4)
                have HG8 := Aside0.mk (HG9.out.keep (t0 := 0) (keeps_below hb4 0) (by decide) (by decide))
                have HB8 := Aside0.mk (HB9.out.trans (hb4.mono HB9.out.size))
                go_roundw
                case rel => exact ⟨j + 1, b, _, _, HJ.out, by go_num, by have := HTS.out; simp; omega, HAL.out, HG8, HR8, HP8, HB8⟩
                case measure => have := HJ.out; simp [intOf]; omega
              · have HEE := Aside0.mk (show endE (l.drop b) = 0 by rw [HNE.out, if_neg hend])
                have e2 : decide ((b : Int) < (l.length : Int)) = false := decide_eq_false (by omega)
                clear hala HNE
                go_wp2_with fail
                repeat (go_quiet (fail))
                have hb3 : Below we.heap.size we (we.drewN nq) := below_drewN (Below.refl _ _) nq
                have HR9 := Aside0.mk (HRD5.out.below hb3)
                have HP9 := Aside0.mk (HPT5.out.below hb3)
                have HG9 := Aside0.mk (HG5.out.keep (t0 := 0) (keeps_below hb3 0) (by decide) (by decide))
                have HB9 := Aside0.mk (HBe.out.trans (hb3.mono HBe.out.size))
                replace k0 := pw_cell_below hb3 k0
                replace k1 := pw_cell_below hb3 k1
                clear hb3 HRD5 HPT5 HG5 HBe
                generalize we.drewN nq = wd at *
                have HLf := Aside0.mk (show ∀ n, Calls Try.prog 28 #[.pointer (some ⟨BR, 0, none⟩)] (wd.drewN n) fun e w' => e = .returned (.int .i64 (q : Int)) ∧ w' = wd.drewN n from fun n => by
                  have h := left_calls BR bR (l.drop b) _ (HR9.out.below (below_drewN (Below.refl _ _) n))
                  rw [HQ.out] at h
                  exact h.mono (fun _ _ h => ⟨h.1, h.2.symm⟩))
                have HEn := Aside0.mk (show ∀ n, Calls Try.prog 27 #[.pointer (some ⟨BR, 0, none⟩)] (wd.drewN n) fun e w' => e = .returned (.int .i64 0) ∧ w' = wd.drewN n from fun n => by
                  have h := end_calls BR bR (l.drop b) _ (HR9.out.below (below_drewN (Below.refl _ _) n))
                  rw [HEE.out] at h
                  exact h.mono (fun _ _ h => ⟨h.1, h.2.symm⟩))
                go_wp2_with fail
                go_quiet (first | (go_at_call 28; exact Calls.quiet_of_same (HLf.out _)) | (go_at_call 27; exact Calls.quiet_of_same (HEn.out _)))
                go_wp2_with fail
                have hb4 : Below wd.heap.size wd (wd.drewN nq) := below_drewN (Below.refl _ _) nq
                have HR8 := Aside0.mk (HR9.out.below hb4)
                have HP8 := Aside0.mk (HP9.out.below hb4)
                have HG8 := Aside0.mk (HG9.out.keep (t0 := 0) (keeps_below hb4 0) (by decide) (by decide))
                have HB8 := Aside0.mk (HB9.out.trans (hb4.mono HB9.out.size))
                go_roundw
                case rel => exact ⟨j + 1, b, _, _, HJ.out, by go_num, by have := HTS.out; simp; omega, HAL.out, HG8, HR8, HP8, HB8⟩
                case measure => have := HJ.out; simp [intOf]; omega
            · have c2b : (p.k == 2) = false := by simp [c2]
              by_cases c3 : p.k = 3
              · have c3b : (p.k == 3) = true := by simp [c3]
                obtain ⟨s, er, bs', hnr⟩ : ∃ v er bs', textR (l.drop a) = (v, er, bs') := ⟨_, _, _, rfl⟩
                have HN1 := Aside0.mk (text_calls BR bR (l.drop a) _ HRD1.out HD8.out s er bs' hnr)
                have HNR := Aside0.mk hnr
                clear hnr c1 c2 c3
                go_wp2_with fail
                generalize hWA : wr.alloc (.cells #[.int .i64 p.k, .int .i64 p.n] 59) = wa at *
                generalize hXB : wr.heap.size = xB at *
                clear hWA hXB
                refine HN1.out.mono ?_
                rintro e wb ⟨rfl, S2, O2⟩
                have hk := keeps_rd HRD1.out O2
                have HRD2 := Aside0.mk S2
                have HPT2 := Aside0.mk (pt_keep HPT1.out hk (by decide) (by decide))
                have HG2 := Aside0.mk (HG1.out.keep hk (by decide) (by decide))
                have HBb := Aside0.mk (only_to HBa.out O2 HW.out.1 HBa.out.size)
                clear S2 O2 hk HRD1 HPT1 HG1 HXA HBa HN1
                go_wp2_with fail
                refine (ptext_calls kp BP bP l a _ HPT2.out HBY.out s er bs' HNR.out HPL.out).mono ?_
                rintro e wc ⟨rfl, ⟨b, S3, hb'⟩, O3⟩
                have hk := keeps_pt HPT2.out O3
                have HRD3 := Aside0.mk (show RdSt wc bR BR (l.drop b) by rw [← hb']; exact rd_keep HRD2.out hk (by decide) (by decide))
                have HPT3 := Aside0.mk S3
                have HG3 := Aside0.mk (HG2.out.keep hk (by decide) (by decide))
                have HBc := Aside0.mk (only_to HBb.out O3 HW.out.2.1 HBb.out.size)
                clear S3 O3 hk hb' HRD2 HPT2 HG2 HBb HNR
                have hvv : (s.data != s.data) = false := bne_self_eq_false _
                have hee : (er != er) = false := bne_self_eq_false _
                have hala : b ≤ l.length := by obtain ⟨_, _, _, _, _, _, _, _, h, _⟩ := HPT3.out.cells; exact h
                obtain ⟨AP, cP, k0, k1, m1, m2, m3, m4, m5, m6⟩ := HPT3.out.cells
                clear m1 m2 m3 m4 m5 m6
                obtain ⟨q, hq⟩ : ∃ q, (l.drop b).length = q := ⟨_, rfl⟩
                have hq2 : q = l.length - b := by rw [← hq, List.length_drop]
                have e1 : IntKind.i64.wrap ((l.length : Int) - b) = q := by rw [IntKind.wrap_i64]; omega
                have eq1 : ((q : Int) != q) = false := bne_self_eq_false _
                have HAL := Aside0.mk hala
                have HQ := Aside0.mk hq
                have HNE := Aside0.mk (show endE (l.drop b) = if b < l.length then 11 else 0 by
                  unfold endE
                  by_cases h : b < l.length
                  · rw [if_pos h, if_neg (fun e => by have := congrArg List.length e; rw [List.length_drop] at this; simp at this; omega)]
                  · rw [if_neg h, if_pos (List.drop_eq_nil_of_le (by omega))])
                clear hq2 hq
                by_cases hend : b < l.length
                · have HEE := Aside0.mk (show endE (l.drop b) = 11 by rw [HNE.out, if_pos hend])
                  have e2 : decide ((b : Int) < (l.length : Int)) = true := decide_eq_true (by omega)
                  clear hala HNE
                  go_wp2_with fail
                  repeat (go_quiet (fail))
                  have hb3 : Below wc.heap.size wc (wc.drewN nq) := below_drewN (Below.refl _ _) nq
                  have HR9 := Aside0.mk (HRD3.out.below hb3)
                  have HP9 := Aside0.mk (HPT3.out.below hb3)
                  have HG9 := Aside0.mk (HG3.out.keep (t0 := 0) (keeps_below hb3 0) (by decide) (by decide))
                  have HB9 := Aside0.mk (HBc.out.trans (hb3.mono HBc.out.size))
                  replace k0 := pw_cell_below hb3 k0
                  replace k1 := pw_cell_below hb3 k1
                  clear hb3 HRD3 HPT3 HG3 HBc
                  generalize wc.drewN nq = wd at *
                  have HLf := Aside0.mk (show ∀ n, Calls Try.prog 28 #[.pointer (some ⟨BR, 0, none⟩)] (wd.drewN n) fun e w' => e = .returned (.int .i64 (q : Int)) ∧ w' = wd.drewN n from fun n => by
                    have h := left_calls BR bR (l.drop b) _ (HR9.out.below (below_drewN (Below.refl _ _) n))
                    rw [HQ.out] at h
                    exact h.mono (fun _ _ h => ⟨h.1, h.2.symm⟩))
                  have HEn := Aside0.mk (show ∀ n, Calls Try.prog 27 #[.pointer (some ⟨BR, 0, none⟩)] (wd.drewN n) fun e w' => e = .returned (.int .i64 11) ∧ w' = wd.drewN n from fun n => by
                    have h := end_calls BR bR (l.drop b) _ (HR9.out.below (below_drewN (Below.refl _ _) n))
                    rw [HEE.out] at h
                    exact h.mono (fun _ _ h => ⟨h.1, h.2.symm⟩))
                  go_wp2_with fail
                  go_quiet (first | (go_at_call 28; exact Calls.quiet_of_same (HLf.out _)) | (go_at_call 27; exact Calls.quiet_of_same (HEn.out _)))
                  go_wp2_with fail
                  have hb4 : Below wd.heap.size wd (wd.drewN nq) := below_drewN (Below.refl _ _) nq
                  have HR8 := Aside0.mk (HR9.out.below hb4)
                  have HP8 := Aside0.mk (HP9.out.below hb4)
                  have HG8 := Aside0.mk (HG9.out.keep (t0 := 0) (keeps_below hb4 0) (by decide) (by decide))
                  have HB8 := Aside0.mk (HB9.out.trans (hb4.mono HB9.out.size))
                  go_roundw
                  case rel => exact ⟨j + 1, b, _, _, HJ.out, by go_num, Nat.le_succ_of_le HTS.out, HAL.out, HG8, HR8, HP8, HB8⟩
                  case measure => have := HJ.out; simp [intOf]; omega
                · have HEE := Aside0.mk (show endE (l.drop b) = 0 by rw [HNE.out, if_neg hend])
                  have e2 : decide ((b : Int) < (l.length : Int)) = false := decide_eq_false (by omega)
                  clear hala HNE
                  go_wp2_with fail
                  repeat (go_quiet (fail))
                  have hb3 : Below wc.heap.size wc (wc.drewN nq) := below_drewN (Below.refl _ _) nq
                  have HR9 := Aside0.mk (HRD3.out.below hb3)
                  have HP9 := Aside0.mk (HPT3.out.below hb3)
                  have HG9 := Aside0.mk (HG3.out.keep (t0 := 0) (keeps_below hb3 0) (by decide) (by decide))
                  have HB9 := Aside0.mk (HBc.out.trans (hb3.mono HBc.out.size))
                  replace k0 := pw_cell_below hb3 k0
                  replace k1 := pw_cell_below hb3 k1
                  clear hb3 HRD3 HPT3 HG3 HBc
                  generalize wc.drewN nq = wd at *
                  have HLf := Aside0.mk (show ∀ n, Calls Try.prog 28 #[.pointer (some ⟨BR, 0, none⟩)] (wd.drewN n) fun e w' => e = .returned (.int .i64 (q : Int)) ∧ w' = wd.drewN n from fun n => by
                    have h := left_calls BR bR (l.drop b) _ (HR9.out.below (below_drewN (Below.refl _ _) n))
                    rw [HQ.out] at h
                    exact h.mono (fun _ _ h => ⟨h.1, h.2.symm⟩))
                  have HEn := Aside0.mk (show ∀ n, Calls Try.prog 27 #[.pointer (some ⟨BR, 0, none⟩)] (wd.drewN n) fun e w' => e = .returned (.int .i64 0) ∧ w' = wd.drewN n from fun n => by
                    have h := end_calls BR bR (l.drop b) _ (HR9.out.below (below_drewN (Below.refl _ _) n))
                    rw [HEE.out] at h
                    exact h.mono (fun _ _ h => ⟨h.1, h.2.symm⟩))
                  go_wp2_with fail
                  go_quiet (first | (go_at_call 28; exact Calls.quiet_of_same (HLf.out _)) | (go_at_call 27; exact Calls.quiet_of_same (HEn.out _)))
                  go_wp2_with fail
                  have hb4 : Below wd.heap.size wd (wd.drewN nq) := below_drewN (Below.refl _ _) nq
                  have HR8 := Aside0.mk (HR9.out.below hb4)
                  have HP8 := Aside0.mk (HP9.out.below hb4)
                  have HG8 := Aside0.mk (HG9.out.keep (t0 := 0) (keeps_below hb4 0) (by decide) (by decide))
                  have HB8 := Aside0.mk (HB9.out.trans (hb4.mono HB9.out.size))
                  go_roundw
                  case rel => exact ⟨j + 1, b, _, _, HJ.out, by go_num, Nat.le_succ_of_le HTS.out, HAL.out, HG8, HR8, HP8, HB8⟩
                  case measure => have := HJ.out; simp [intOf]; omega
              · have c3b : (p.k == 3) = false := by simp [c3]
                clear c1 c2 c3
                go_wp2_with fail
                generalize hWA : wr.alloc (.cells #[.int .i64 p.k, .int .i64 p.n] 59) = wa at *
                generalize hXB : wr.heap.size = xB at *
                clear hWA hXB
                have hala : a ≤ l.length := by obtain ⟨_, _, _, _, _, _, _, _, h, _⟩ := HPT1.out.cells; exact h
                obtain ⟨AP, cP, k0, k1, m1, m2, m3, m4, m5, m6⟩ := HPT1.out.cells
                clear m1 m2 m3 m4 m5 m6
                obtain ⟨q, hq⟩ : ∃ q, (l.drop a).length = q := ⟨_, rfl⟩
                have hq2 : q = l.length - a := by rw [← hq, List.length_drop]
                have e1 : IntKind.i64.wrap ((l.length : Int) - a) = q := by rw [IntKind.wrap_i64]; omega
                have eq1 : ((q : Int) != q) = false := bne_self_eq_false _
                have HAL := Aside0.mk hala
                have HQ := Aside0.mk hq
                have HNE := Aside0.mk (show endE (l.drop a) = if a < l.length then 11 else 0 by
                  unfold endE
                  by_cases h : a < l.length
                  · rw [if_pos h, if_neg (fun e => by have := congrArg List.length e; rw [List.length_drop] at this; simp at this; omega)]
                  · rw [if_neg h, if_pos (List.drop_eq_nil_of_le (by omega))])
                clear hq2 hq
                by_cases hend : a < l.length
                · have HEE := Aside0.mk (show endE (l.drop a) = 11 by rw [HNE.out, if_pos hend])
                  have e2 : decide ((a : Int) < (l.length : Int)) = true := decide_eq_true (by omega)
                  clear hala HNE
                  go_wp2_with fail
                  repeat (go_quiet (fail))
                  have hb3 : Below wa.heap.size wa (wa.drewN nq) := below_drewN (Below.refl _ _) nq
                  have HR9 := Aside0.mk (HRD1.out.below hb3)
                  have HP9 := Aside0.mk (HPT1.out.below hb3)
                  have HG9 := Aside0.mk (HG1.out.keep (t0 := 0) (keeps_below hb3 0) (by decide) (by decide))
                  have HB9 := Aside0.mk (HBa.out.trans (hb3.mono HBa.out.size))
                  replace k0 := pw_cell_below hb3 k0
                  replace k1 := pw_cell_below hb3 k1
                  clear hb3 HRD1 HPT1 HG1 HBa
                  generalize wa.drewN nq = wd at *
                  have HLf := Aside0.mk (show ∀ n, Calls Try.prog 28 #[.pointer (some ⟨BR, 0, none⟩)] (wd.drewN n) fun e w' => e = .returned (.int .i64 (q : Int)) ∧ w' = wd.drewN n from fun n => by
                    have h := left_calls BR bR (l.drop a) _ (HR9.out.below (below_drewN (Below.refl _ _) n))
                    rw [HQ.out] at h
                    exact h.mono (fun _ _ h => ⟨h.1, h.2.symm⟩))
                  have HEn := Aside0.mk (show ∀ n, Calls Try.prog 27 #[.pointer (some ⟨BR, 0, none⟩)] (wd.drewN n) fun e w' => e = .returned (.int .i64 11) ∧ w' = wd.drewN n from fun n => by
                    have h := end_calls BR bR (l.drop a) _ (HR9.out.below (below_drewN (Below.refl _ _) n))
                    rw [HEE.out] at h
                    exact h.mono (fun _ _ h => ⟨h.1, h.2.symm⟩))
                  go_wp2_with fail
                  go_quiet (first | (go_at_call 28; exact Calls.quiet_of_same (HLf.out _)) | (go_at_call 27; exact Calls.quiet_of_same (HEn.out _)))
                  go_wp2_with fail
                  have hb4 : Below wd.heap.size wd (wd.drewN nq) := below_drewN (Below.refl _ _) nq
                  have HR8 := Aside0.mk (HR9.out.below hb4)
                  have HP8 := Aside0.mk (HP9.out.below hb4)
                  have HG8 := Aside0.mk (HG9.out.keep (t0 := 0) (keeps_below hb4 0) (by decide) (by decide))
                  have HB8 := Aside0.mk (HB9.out.trans (hb4.mono HB9.out.size))
                  go_roundw
                  case rel => exact ⟨j + 1, a, _, _, HJ.out, by go_num, Nat.le_succ_of_le HTS.out, HAL.out, HG8, HR8, HP8, HB8⟩
                  case measure => have := HJ.out; simp [intOf]; omega
                · have HEE := Aside0.mk (show endE (l.drop a) = 0 by rw [HNE.out, if_neg hend])
                  have e2 : decide ((a : Int) < (l.length : Int)) = false := decide_eq_false (by omega)
                  clear hala HNE
                  go_wp2_with fail
                  repeat (go_quiet (fail))
                  have hb3 : Below wa.heap.size wa (wa.drewN nq) := below_drewN (Below.refl _ _) nq
                  have HR9 := Aside0.mk (HRD1.out.below hb3)
                  have HP9 := Aside0.mk (HPT1.out.below hb3)
                  have HG9 := Aside0.mk (HG1.out.keep (t0 := 0) (keeps_below hb3 0) (by decide) (by decide))
                  have HB9 := Aside0.mk (HBa.out.trans (hb3.mono HBa.out.size))
                  replace k0 := pw_cell_below hb3 k0
                  replace k1 := pw_cell_below hb3 k1
                  clear hb3 HRD1 HPT1 HG1 HBa
                  generalize wa.drewN nq = wd at *
                  have HLf := Aside0.mk (show ∀ n, Calls Try.prog 28 #[.pointer (some ⟨BR, 0, none⟩)] (wd.drewN n) fun e w' => e = .returned (.int .i64 (q : Int)) ∧ w' = wd.drewN n from fun n => by
                    have h := left_calls BR bR (l.drop a) _ (HR9.out.below (below_drewN (Below.refl _ _) n))
                    rw [HQ.out] at h
                    exact h.mono (fun _ _ h => ⟨h.1, h.2.symm⟩))
                  have HEn := Aside0.mk (show ∀ n, Calls Try.prog 27 #[.pointer (some ⟨BR, 0, none⟩)] (wd.drewN n) fun e w' => e = .returned (.int .i64 0) ∧ w' = wd.drewN n from fun n => by
                    have h := end_calls BR bR (l.drop a) _ (HR9.out.below (below_drewN (Below.refl _ _) n))
                    rw [HEE.out] at h
                    exact h.mono (fun _ _ h => ⟨h.1, h.2.symm⟩))
                  go_wp2_with fail
                  go_quiet (first | (go_at_call 28; exact Calls.quiet_of_same (HLf.out _)) | (go_at_call 27; exact Calls.quiet_of_same (HEn.out _)))
                  go_wp2_with fail
                  have hb4 : Below wd.heap.size wd (wd.drewN nq) := below_drewN (Below.refl _ _) nq
                  have HR8 := Aside0.mk (HR9.out.below hb4)
                  have HP8 := Aside0.mk (HP9.out.below hb4)
                  have HG8 := Aside0.mk (HG9.out.keep (t0 := 0) (keeps_below hb4 0) (by decide) (by decide))
                  have HB8 := Aside0.mk (HB9.out.trans (hb4.mono HB9.out.size))
                  go_roundw
                  case rel => exact ⟨j + 1, a, _, _, HJ.out, by go_num, Nat.le_succ_of_le HTS.out, HAL.out, HG8, HR8, HP8, HB8⟩
                  case measure => have := HJ.out; simp [intOf]; omega
        · have hd2 : decide ((j : Int) < (ps.length : Int)) = false := decide_eq_false (by omega)
          obtain ⟨Ag, cg, eu, hown⟩ := HG.out.owned HB.out.size (by omega)
          subst eu
          have HOW := Aside0.mk hown
          clear hown
          go_wp2_with fail
          refine HOW.out.mono ?_
          rintro e wy ⟨rfl, B5⟩
          have HB5 := Aside0.mk (HB.out.trans B5)
          clear B5
          go_wp2_with fail
          refine (tappetlaw01_heads.calls true _ rfl).mono ?_
          rintro e wz ⟨rfl, B6⟩
          have HB6 := Aside0.mk (HB5.out.trans (B6.mono HB5.out.size))
          go_wp2_with fail
          go_ret
          exact ⟨rfl, HB6.out⟩
end Go.Proofs.Ytbhlalnpefijkaa.XC
