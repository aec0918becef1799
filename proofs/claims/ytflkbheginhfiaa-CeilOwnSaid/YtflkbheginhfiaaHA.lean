/- a configuration as ceil reads it: its eighteen cells, boxed or handed over; its tasks, resources and interrupts read as lists. -/
import Derived.Test.YtflkbheginhfiaaXAx0
import Derived.Maps.OwnSet
import Derived.Maps.OwnOps
import Derived.Maps.Views
import Derived.Lib.Hide
import Derived.Laws.IdiomRangeMap
namespace Go.Proofs.Ytflkbheginhfiaa.XA
set_option linter.unusedVariables false
set_option linter.unusedSimpArgs false
open Go.RowKit Go.Proofs.YtflkbheginhfiaaW.PrintWords Go.Proofs.YtflkbheginhfiaaW.PrintLast Go.Proofs.YtflkbheginhfiaaW.PrintMore
/-- what else a configuration bears -/
structure CV where
  (s0 s1 : ByteArray) (b2 b3 b4 b5 b6 b7 b8 b9 : Bool)
  (A10 : Option Addr) (n10 c10 : Nat) (A13 : Option Addr) (n13 c13 : Nat) (A14 : Option Addr) (n14 c14 : Nat) (A15 : Option Addr) (n15 c15 : Nat) (A17 : Option Addr) (n17 c17 : Nat)
def CV.arr (x : CV) (AT : Option Addr) (cT : Nat) (AR : Option Addr) (cR : Nat) (AI : Option Addr) (cI : Nat) (nT nR nI : Nat) : Array Value := #[.string x.s0, .string x.s1, .bool x.b2, .bool x.b3, .bool x.b4, .bool x.b5, .bool x.b6, .bool x.b7, .bool x.b8, .bool x.b9, .slice x.A10 x.n10 x.c10, .slice AT nT cT, .slice AR nR cR, .slice x.A13 x.n13 x.c13, .slice x.A14 x.n14 x.c14, .slice x.A15 x.n15 x.c15, .slice AI nI cI, .slice x.A17 x.n17 x.c17]
/-- the lists are read -/
structure Cfg (w : World) (AT : Option Addr) (cT : Nat) (AR : Option Addr) (cR : Nat) (AI : Option Addr) (cI : Nat) (ts : List S64) (rs : List S73) (is : List S66) : Prop where
  ct : ts.length ≤ cT
  t : k64.C w AT ts.length ts
  cr : rs.length ≤ cR
  r : k73.C w AR rs.length rs
  ci : is.length ≤ cI
  i : k66.C w AI is.length is
theorem Cfg.below {w w1 : World} {AT : Option Addr} {cT : Nat} {AR : Option Addr} {cR : Nat} {AI : Option Addr} {cI : Nat} {ts : List S64} {rs : List S73} {is : List S66} (h : Cfg w AT cT AR cR AI cI ts rs is) (hB : Below w.heap.size w w1) : Cfg w1 AT cT AR cR AI cI ts rs is :=
  ⟨h.ct, Kd.C_below h.t hB, h.cr, Kd.C_below h.r hB, h.ci, Kd.C_below h.i hB⟩
/-- the configuration in a box -/
def BoxAt (w : World) (B : Nat) (x : CV) (AT : Option Addr) (cT : Nat) (AR : Option Addr) (cR : Nat) (AI : Option Addr) (cI : Nat) (nT nR nI : Nat) : Prop := w.heap[B]? = some (.cells (x.arr AT cT AR cR AI cI nT nR nI) 36 (0, 0))
theorem BoxAt.lt {w : World} {B : Nat} {x : CV} {AT : Option Addr} {cT : Nat} {AR : Option Addr} {cR : Nat} {AI : Option Addr} {cI : Nat} {nT nR nI : Nat} (h : BoxAt w B x AT cT AR cR AI cI nT nR nI) : B < w.heap.size := blk_lt h
theorem BoxAt.below {w w1 : World} {B : Nat} {x : CV} {AT : Option Addr} {cT : Nat} {AR : Option Addr} {cR : Nat} {AI : Option Addr} {cI : Nat} {nT nR nI : Nat} (h : BoxAt w B x AT cT AR cR AI cI nT nR nI) (hB : Below w.heap.size w w1) : BoxAt w1 B x AT cT AR cR AI cI nT nR nI := (hB.block B h.lt).trans h
theorem BoxAt.grown {w w1 : World} {B : Nat} {x : CV} {AT : Option Addr} {cT : Nat} {AR : Option Addr} {cR : Nat} {AI : Option Addr} {cI : Nat} {nT nR nI : Nat} {row : Option Nat} (h : BoxAt w B x AT cT AR cR AI cI nT nR nI) (hg : w.grownBy w1 row) (hne : some B ≠ row) : BoxAt w1 B x AT cT AR cR AI cI nT nR nI := (hg.block B h.lt hne).trans h
theorem BoxAt.made (w : World) (x : CV) (AT : Option Addr) (cT : Nat) (AR : Option Addr) (cR : Nat) (AI : Option Addr) (cI : Nat) (nT nR nI : Nat) : BoxAt (w.alloc (.cells (x.arr AT cT AR cR AI cI nT nR nI) 36)) w.heap.size x AT cT AR cR AI cI nT nR nI := heap_alloc_new w _
theorem BoxAt.cell {w : World} {B : Nat} {x : CV} {AT : Option Addr} {cT : Nat} {AR : Option Addr} {cR : Nat} {AI : Option Addr} {cI : Nat} {nT nR nI : Nat} (h : BoxAt w B x AT cT AR cR AI cI nT nR nI) (k : Nat) : w.cell? ⟨B, k, none⟩ = (x.arr AT cT AR cR AI cI nT nR nI)[k]? := by
  unfold BoxAt at h
  simp [World.cell?, h]
theorem BoxAt.sched {w : World} {B : Nat} {x : CV} {AT : Option Addr} {cT : Nat} {AR : Option Addr} {cR : Nat} {AI : Option Addr} {cI : Nat} {nT nR nI : Nat} (h : BoxAt w B x AT cT AR cR AI cI nT nR nI) : w.cell? ⟨B, 9, none⟩ = some (.bool x.b9) := h.cell 9
theorem BoxAt.tasks {w : World} {B : Nat} {x : CV} {AT : Option Addr} {cT : Nat} {AR : Option Addr} {cR : Nat} {AI : Option Addr} {cI : Nat} {nT nR nI : Nat} (h : BoxAt w B x AT cT AR cR AI cI nT nR nI) : w.cell? ⟨B, 11, none⟩ = some (.slice AT nT cT) := h.cell 11
theorem BoxAt.res {w : World} {B : Nat} {x : CV} {AT : Option Addr} {cT : Nat} {AR : Option Addr} {cR : Nat} {AI : Option Addr} {cI : Nat} {nT nR nI : Nat} (h : BoxAt w B x AT cT AR cR AI cI nT nR nI) : w.cell? ⟨B, 12, none⟩ = some (.slice AR nR cR) := h.cell 12
theorem BoxAt.isrs {w : World} {B : Nat} {x : CV} {AT : Option Addr} {cT : Nat} {AR : Option Addr} {cR : Nat} {AI : Option Addr} {cI : Nat} {nT nR nI : Nat} (h : BoxAt w B x AT cT AR cR AI cI nT nR nI) : w.cell? ⟨B, 16, none⟩ = some (.slice AI nI cI) := h.cell 16
/-! ### resources -/
def kindOf (rs : List S73) (i : Nat) : Int := (rs.getD i z73).f1
def linkOf (rs : List S73) (i : Nat) : Int := (rs.getD i z73).f2
theorem res_at {w : World} {A : Option Addr} {n : Nat} {rs : List S73} (h : k73.C w A n rs) (i : Nat) (hi : i < n) :
    ∃ ad, A = some ad ∧ w.cell? ⟨(ad.add (i * 3)).block, (ad.add (i * 3)).off + 1, none⟩ = some (.int .i64 (kindOf rs i)) ∧ w.cell? ⟨(ad.add (i * 3)).block, (ad.add (i * 3)).off + 2, none⟩ = some (.int .i64 (linkOf rs i)) := by
  obtain ⟨ad, e, _, h1, h2⟩ := at_T73 h (i : Int) (by omega) (by omega)
  rw [Int.toNat_natCast] at h1 h2
  exact ⟨ad, e, h1, h2⟩
/-- where a resource leads -/
def chase (rs : List S73) : Nat → Nat → Option Nat
  | 0, at_ => if kindOf rs at_ = 2 then none else some at_
  | k + 1, at_ => if kindOf rs at_ = 2 then chase rs k (linkOf rs at_).toNat else some at_
/-- links lead to resources -/
def LinksOk (rs : List S73) : Prop := ∀ i, i < rs.length → kindOf rs i = 2 → 0 ≤ linkOf rs i ∧ linkOf rs i < rs.length
theorem chase_lt {rs : List S73} (h : LinksOk rs) : ∀ (k a b : Nat), a < rs.length → chase rs k a = some b → b < rs.length ∧ kindOf rs b ≠ 2
  | 0, a, b, ha, e => by
    unfold chase at e
    split at e
    · cases e
    · injection e with e
      subst e
      exact ⟨ha, by assumption⟩
  | k + 1, a, b, ha, e => by
    unfold chase at e
    split at e
    · rename_i hk
      have := h a ha hk
      exact chase_lt h k _ b (by omega) e
    · injection e with e
      subst e
      exact ⟨ha, by assumption⟩
end Go.Proofs.Ytflkbheginhfiaa.XA
/- a map of whole numbers whose entries are told one by one: i to the i-th number of a list; put, asked. -/
namespace Go.Proofs.Ytflkbheginhfiaa.XA
set_option linter.unusedVariables false
set_option linter.unusedSimpArgs false
open Go.RowKit Go.WideMaps Go.Maps Go.ChangeMaps Go.MapKept Go.Proofs.YtflkbheginhfiaaW.PrintWords
theorem law3 : Keyed Try.prog 3 := int_keyed Try.underlying3
theorem key_int (n : Int) (h : (Lit.int .i64 n).wf = true) : keyOf Try.prog 3 (.int .i64 n) = some (.int .i64 n) := keyOf_int_mk Try.underlying3 h
def ent (l : List Nat) (i : Nat) : MapEntry := ⟨.int .i64 (i : Int), .int .i64 ((l.getD i 0 : Nat) : Int), i⟩
def ents (l : List Nat) : List MapEntry := (List.range l.length).map (ent l)
def MapAt (w : World) (b : Nat) (l : List Nat) : Prop := w.heap[b]? = some (.map (ents l).toArray l.length) ∧ l.length ≤ 4398046511104
theorem ents_snoc (l : List Nat) (a : Nat) : ents (l ++ [a]) = ents l ++ [⟨.int .i64 (l.length : Int), .int .i64 (a : Int), l.length⟩] := by
  unfold ents
  rw [List.length_append, List.length_singleton, List.range_succ, List.map_append]
  congr 1
  · apply List.map_congr_left
    intro i hi
    rw [List.mem_range] at hi
    unfold ent
    rw [List.getD_eq_getElem?_getD, List.getElem?_append_left hi, ← List.getD_eq_getElem?_getD]
  · simp [ent, List.getD_eq_getElem?_getD]
theorem mem_ents {l : List Nat} {e : MapEntry} (h : e ∈ ents l) : ∃ i, i < l.length ∧ e = ent l i := by
  obtain ⟨i, hi, rfl⟩ := List.mem_map.mp h
  exact ⟨i, by simpa using hi, rfl⟩
theorem ents_key {l : List Nat} (hl : l.length ≤ 4398046511104) : ∀ e ∈ ents l, ∃ q, keyOf Try.prog 3 e.key = some q := by
  intro e he
  obtain ⟨i, hi, rfl⟩ := mem_ents he
  exact ⟨_, key_int _ (WalkArith.wf_i64 (by omega))⟩
theorem map_lt {w : World} {b : Nat} {l : List Nat} (h : MapAt w b l) : b < w.heap.size := by
  rcases Nat.lt_or_ge b w.heap.size with hb | hb
  · exact hb
  · have := h.1
    rw [Array.getElem?_eq_none hb] at this
    cases this
theorem MapAt.below {w w1 : World} {b : Nat} {l : List Nat} (h : MapAt w b l) (hB : Below w.heap.size w w1) : MapAt w1 b l := ⟨(hB.block b (map_lt h)).trans h.1, h.2⟩
theorem map_put {w : World} {b : Nat} {l : List Nat} (h : MapAt w b l) (a : Nat) (hl : l.length < 4398046511104) :
    ∃ w', (Instr.mapUpdate 75 (.map (some b)) (.int .i64 (l.length : Int)) (.int .i64 (a : Int))).run Try.prog w = .ok () w' ∧ MapAt w' b (l ++ [a]) ∧ w.grownBy w' (some b) := by
  have hkey := key_int (l.length : Int) (WalkArith.wf_i64 (by omega))
  refine ⟨setBlock w b (.map (ents (l ++ [a])).toArray (l.length + 1)), ?_, ⟨?_, by simp; omega⟩, ⟨rfl, rfl, rfl, by simp [setBlock], fun i _ hi => heap_setBlock_other h.1 _ (fun e => hi (by rw [e]))⟩⟩
  · have hb := h.1
    rcases law3.find w hkey (ents l) (ents_key h.2) with ⟨h1, h2⟩ | ⟨j, e0, h1, h2, h3⟩
    · have hk1 : (Instr.findKey 3 (.int .i64 (l.length : Int)) (ents l).toArray.toList).run Try.prog w = .ok none w := h1
      have he : (ents (l ++ [a])).toArray = (ents l).toArray.push ⟨.int .i64 (l.length : Int), .int .i64 (a : Int), l.length⟩ := by rw [ents_snoc]; simp
      rw [he]
      simp [Instr.mapUpdate, run_underlying Try.underlying75, MapKept.run_getObj_map hb, law3.check w false hkey, h1, MapKept.run_setObj_map _ hb, Result.andThen, setBlock]
    · exfalso
      obtain ⟨i, hi, rfl⟩ := mem_ents (List.mem_of_getElem? h2)
      unfold ent at h3
      simp at h3
      omega
  · rw [List.length_append, List.length_singleton]
    exact heap_setBlock_same h.1 _
theorem map_get {w : World} {b : Nat} {l : List Nat} (h : MapAt w b l) (i : Nat) (hi : i < l.length) :
    (Instr.lookup 75 (.map (some b)) (.int .i64 (i : Int)) false).run Try.prog w = .ok (.int .i64 ((l.getD i 0 : Nat) : Int)) w := by
  have hb := h.1
  have hll := h.2
  have hkey := key_int (i : Int) (WalkArith.wf_i64 (by omega))
  have hz : (zeroValue 3).run Try.prog w = .ok (.int .i64 0) w := by kernel_rfl
  rcases law3.find w hkey (ents l) (ents_key h.2) with ⟨h1, h2⟩ | ⟨j, e0, h1, h2, h3⟩
  · exact absurd rfl (h2 (ent l i) (List.mem_map.mpr ⟨i, by simpa using hi, rfl⟩))
  · obtain ⟨q, hq, rfl⟩ := mem_ents (List.mem_of_getElem? h2)
    have e : q = i := by
      unfold ent at h3
      simp at h3
      omega
    subst e
    simp [Instr.lookup, run_underlying Try.underlying75, MapKept.run_getObj_map hb, law3.check w _ hkey, h1, hz, Result.andThen, ent]
end Go.Proofs.Ytflkbheginhfiaa.XA
/- ceil.rises, ceil.roots: the contracts. -/
namespace Go.Proofs.Ytflkbheginhfiaa.XA
set_option linter.unusedVariables false
set_option linter.unusedSimpArgs false
open Go.RowKit Go.WideMaps Go.Maps Go.Proofs.YtflkbheginhfiaaW.PrintWords Go.Proofs.YtflkbheginhfiaaW.PrintLast Go.Proofs.YtflkbheginhfiaaW.PrintMore
/-- is a list of resources one that may be, behind 'last'? -/
def risesF (n : Nat) : Int → List Int → Bool
  | _, [] => true
  | last, r :: l => if r ≤ last ∨ (n : Int) ≤ r then false else risesF n r l
set_option maxRecDepth 1000000 in
set_option maxHeartbeats 1000000 in
theorem rises_calls (x : CV) (AT : Option Addr) (cT : Nat) (AR : Option Addr) (cR : Nat) (AI : Option Addr) (cI : Nat) (ts : List S64) (rs : List S73) (is : List S66) (A : Option Addr) (c : Nat) (l : List Int) (w : World) (hl : (Kd.int .i64).C w A l.length l) (hc : l.length ≤ c) :
    Calls Try.prog 27 #[.agg #[.string x.s0, .string x.s1, .bool x.b2, .bool x.b3, .bool x.b4, .bool x.b5, .bool x.b6, .bool x.b7, .bool x.b8, .bool x.b9, .slice x.A10 x.n10 x.c10, .slice AT ts.length cT, .slice AR rs.length cR, .slice x.A13 x.n13 x.c13, .slice x.A14 x.n14 x.c14, .slice x.A15 x.n15 x.c15, .slice AI is.length cI, .slice x.A17 x.n17 x.c17], .slice A l.length c] w fun e w' => e = .returned (.bool (risesF rs.length (-1) l)) ∧ Below w.heap.size w w' := by
  have HL := Aside0.mk hl
  have hlen := hl.2.1
  clear hl
  have HB0 := Aside0.mk (show Below w.heap.size w (w.alloc (.cells #[.string x.s0, .string x.s1, .bool x.b2, .bool x.b3, .bool x.b4, .bool x.b5, .bool x.b6, .bool x.b7, .bool x.b8, .bool x.b9, .slice x.A10 x.n10 x.c10, .slice AT ts.length cT, .slice AR rs.length cR, .slice x.A13 x.n13 x.c13, .slice x.A14 x.n14 x.c14, .slice x.A15 x.n15 x.c15, .slice AI is.length cI, .slice x.A17 x.n17 x.c17] 36)) from (Below.refl _ _).alloc (Nat.le_refl _) _)
  have HBX := Aside0.mk (BoxAt.made w x AT cT AR cR AI cI ts.length rs.length is.length)
  go_enter Try.func27, Try.ntmps27
  go_wp2_with fail
  have HL0 := Aside0.mk (Kd.C_below HL.out (show Below w.heap.size w (w.alloc (.cells #[.string x.s0, .string x.s1, .bool x.b2, .bool x.b3, .bool x.b4, .bool x.b5, .bool x.b6, .bool x.b7, .bool x.b8, .bool x.b9, .slice x.A10 x.n10 x.c10, .slice AT ts.length cT, .slice AR rs.length cR, .slice x.A13 x.n13 x.c13, .slice x.A14 x.n14 x.c14, .slice x.A15 x.n15 x.c15, .slice AI is.length cI, .slice x.A17 x.n17 x.c17] 36)) from (Below.refl _ _).alloc (Nat.le_refl _) _))
  have hres := HBX.out.res
  unfold CV.arr at hres
  have HRS := Aside0.mk hres
  clear hres HBX
  generalize w.alloc (.cells #[.string x.s0, .string x.s1, .bool x.b2, .bool x.b3, .bool x.b4, .bool x.b5, .bool x.b6, .bool x.b7, .bool x.b8, .bool x.b9, .slice x.A10 x.n10 x.c10, .slice AT ts.length cT, .slice AR rs.length cR, .slice x.A13 x.n13 x.c13, .slice x.A14 x.n14 x.c14, .slice x.A15 x.n15 x.c15, .slice AI is.length cI, .slice x.A17 x.n17 x.c17] 36) = w0 at *
  go_loop [5, 10] (fun v i => ∃ (k : Nat) (last : Int), k ≤ l.length ∧ i = .int .i64 k ∧ v = .int .i64 last ∧ Aside0 (risesF rs.length (-1) l = risesF rs.length last (l.drop k))) (fun _ i => l.length - (intOf i).toNat)
  case atStart => exact ⟨0, -1, by omega, rfl, rfl, ⟨by rw [List.drop_zero]⟩⟩
  case round =>
    obtain ⟨k, last, hk, rfl, rfl, hr⟩ := hrel
    by_cases hlt : k < l.length
    · have hd : decide ((k : Int) < (l.length : Int)) = true := decide_eq_true (by omega)
      obtain ⟨ad, rfl, hc0⟩ := (Kd.reads_of_C (d := (0 : Int)) HL0.out).2.2 (by omega)
      have hx := hc0 k hlt
      clear hc0
      obtain ⟨r, hr0⟩ : ∃ r, l.getD k 0 = r := ⟨_, rfl⟩
      have hdr : l.drop k = r :: l.drop (k + 1) := by
        rw [List.drop_eq_getElem_cons hlt, ← hr0, List.getD_eq_getElem?_getD, List.getElem?_eq_getElem hlt]
        rfl
      have hst := hr.out
      rw [hdr] at hst
      rw [hr0] at hx
      have HST := Aside0.mk hst
      have hres := HRS.out
      have hlen2 := hlen
      clear hr hdr hst hr0
      by_cases c1 : r ≤ last
      · have c1b : decide (r ≤ last) = true := decide_eq_true c1
        have HF := Aside0.mk (show risesF rs.length (-1) l = false by rw [HST.out]; unfold risesF; rw [if_pos (.inl c1)])
        go_wp2_with fail
        go_ret
        exact ⟨by rw [HF.out]; rfl, HB0.out⟩
      · have c1b : decide (r ≤ last) = false := decide_eq_false c1
        by_cases c2 : (rs.length : Int) ≤ r
        · have c2b : decide ((rs.length : Int) ≤ r) = true := decide_eq_true c2
          have HF := Aside0.mk (show risesF rs.length (-1) l = false by rw [HST.out]; unfold risesF; rw [if_pos (.inr c2)])
          go_wp2_with fail
          go_ret
          exact ⟨by rw [HF.out]; rfl, HB0.out⟩
        · have c2b : decide ((rs.length : Int) ≤ r) = false := decide_eq_false c2
          have HF := Aside0.mk (show risesF rs.length (-1) l = risesF rs.length r (l.drop (k + 1)) by rw [HST.out, risesF, if_neg (by omega)])
          go_wp2_with fail
          go_round
          case rel => exact ⟨k + 1, r, by omega, by go_num, rfl, HF⟩
          case measure => simp [intOf]; omega
    · have hd : decide ((k : Int) < (l.length : Int)) = false := decide_eq_false (by omega)
      have HF := Aside0.mk (show risesF rs.length (-1) l = true by rw [hr.out, List.drop_eq_nil_of_le (by omega)]; rfl)
      go_wp2_with fail
      go_ret
      exact ⟨by rw [HF.out]; rfl, HB0.out⟩
/-! ### roots: a map from each resource to where it leads -/
/-- where all lead, up to the k-th -/
def Roots (rs : List S73) (l : List Nat) : Prop := l.length ≤ rs.length ∧ ∀ i, i < l.length → chase rs (rs.length + 1) i = some (l.getD i 0)
set_option maxRecDepth 1000000 in
set_option maxHeartbeats 1000000 in
theorem roots_calls (x : CV) (AT : Option Addr) (cT : Nat) (AR : Option Addr) (cR : Nat) (AI : Option Addr) (cI : Nat) (ts : List S64) (rs : List S73) (is : List S66) (w : World) (hC : Cfg w AT cT AR cR AI cI ts rs is) (hlk : LinksOk rs) (hsz : rs.length ≤ 4398046511104) :
    Calls Try.prog 28 #[.agg #[.string x.s0, .string x.s1, .bool x.b2, .bool x.b3, .bool x.b4, .bool x.b5, .bool x.b6, .bool x.b7, .bool x.b8, .bool x.b9, .slice x.A10 x.n10 x.c10, .slice AT ts.length cT, .slice AR rs.length cR, .slice x.A13 x.n13 x.c13, .slice x.A14 x.n14 x.c14, .slice x.A15 x.n15 x.c15, .slice AI is.length cI, .slice x.A17 x.n17 x.c17]] w fun e w' => Below w.heap.size w w' ∧
      ((e = .returned (.tuple #[.map none, .int .i64 81]) ∧ ∃ i, i < rs.length ∧ chase rs (rs.length + 1) i = none) ∨
       ∃ B l, e = .returned (.tuple #[.map (some B), .int .i64 0]) ∧ MapAt w' B l ∧ Roots rs l ∧ l.length = rs.length ∧ w.heap.size ≤ B) := by
  have HC := Aside0.mk hC
  have HLK := Aside0.mk hlk
  clear hC hlk
  have HBX := Aside0.mk (BoxAt.made w x AT cT AR cR AI cI ts.length rs.length is.length)
  have HB0 := Aside0.mk (show Below w.heap.size w (w.alloc (.cells #[.string x.s0, .string x.s1, .bool x.b2, .bool x.b3, .bool x.b4, .bool x.b5, .bool x.b6, .bool x.b7, .bool x.b8, .bool x.b9, .slice x.A10 x.n10 x.c10, .slice AT ts.length cT, .slice AR rs.length cR, .slice x.A13 x.n13 x.c13, .slice x.A14 x.n14 x.c14, .slice x.A15 x.n15 x.c15, .slice AI is.length cI, .slice x.A17 x.n17 x.c17] 36)) from (Below.refl _ _).alloc (Nat.le_refl _) _)
  have hmm := @run_makeMap Try.prog
  go_enter Try.func28, Try.ntmps28
  go_wp2_with fail
  have hb1 : Below w.heap.size w ((w.alloc (.cells #[.string x.s0, .string x.s1, .bool x.b2, .bool x.b3, .bool x.b4, .bool x.b5, .bool x.b6, .bool x.b7, .bool x.b8, .bool x.b9, .slice x.A10 x.n10 x.c10, .slice AT ts.length cT, .slice AR rs.length cR, .slice x.A13 x.n13 x.c13, .slice x.A14 x.n14 x.c14, .slice x.A15 x.n15 x.c15, .slice AI is.length cI, .slice x.A17 x.n17 x.c17] 36)).alloc (.map #[] 0)) := HB0.out.alloc HB0.out.size _
  have HBa := Aside0.mk hb1
  have HXa := Aside0.mk (show BoxAt ((w.alloc (.cells #[.string x.s0, .string x.s1, .bool x.b2, .bool x.b3, .bool x.b4, .bool x.b5, .bool x.b6, .bool x.b7, .bool x.b8, .bool x.b9, .slice x.A10 x.n10 x.c10, .slice AT ts.length cT, .slice AR rs.length cR, .slice x.A13 x.n13 x.c13, .slice x.A14 x.n14 x.c14, .slice x.A15 x.n15 x.c15, .slice AI is.length cI, .slice x.A17 x.n17 x.c17] 36)).alloc (.map #[] 0)) w.heap.size x AT cT AR cR AI cI ts.length rs.length is.length from HBX.out.below ((Below.refl _ _).alloc (Nat.le_refl _) _))
  have HMa := Aside0.mk (show MapAt ((w.alloc (.cells #[.string x.s0, .string x.s1, .bool x.b2, .bool x.b3, .bool x.b4, .bool x.b5, .bool x.b6, .bool x.b7, .bool x.b8, .bool x.b9, .slice x.A10 x.n10 x.c10, .slice AT ts.length cT, .slice AR rs.length cR, .slice x.A13 x.n13 x.c13, .slice x.A14 x.n14 x.c14, .slice x.A15 x.n15 x.c15, .slice AI is.length cI, .slice x.A17 x.n17 x.c17] 36)).alloc (.map #[] 0)) (w.heap.size + 1) [] from by
    have h := heap_alloc_new (w.alloc (.cells #[.string x.s0, .string x.s1, .bool x.b2, .bool x.b3, .bool x.b4, .bool x.b5, .bool x.b6, .bool x.b7, .bool x.b8, .bool x.b9, .slice x.A10 x.n10 x.c10, .slice AT ts.length cT, .slice AR rs.length cR, .slice x.A13 x.n13 x.c13, .slice x.A14 x.n14 x.c14, .slice x.A15 x.n15 x.c15, .slice AI is.length cI, .slice x.A17 x.n17 x.c17] 36)) (.map #[] 0)
    rw [World.size_alloc] at h
    exact ⟨h, by simp⟩)
  clear hb1 HBX HB0 hmm
  generalize (w.alloc (.cells #[.string x.s0, .string x.s1, .bool x.b2, .bool x.b3, .bool x.b4, .bool x.b5, .bool x.b6, .bool x.b7, .bool x.b8, .bool x.b9, .slice x.A10 x.n10 x.c10, .slice AT ts.length cT, .slice AR rs.length cR, .slice x.A13 x.n13 x.c13, .slice x.A14 x.n14 x.c14, .slice x.A15 x.n15 x.c15, .slice AI is.length cI, .slice x.A17 x.n17 x.c17] 36)).alloc (.map #[] 0) = w0 at *
  go_loopw [12] (fun i wr => ∃ l : List Nat, l.length ≤ rs.length ∧ i = .int .i64 (l.length : Nat) ∧ Aside0 (Roots rs l) ∧ Aside0 (MapAt wr (w.heap.size + 1) l) ∧ Aside0 (BoxAt wr w.heap.size x AT cT AR cR AI cI ts.length rs.length is.length) ∧ Aside0 (Below w.heap.size w wr)) (fun i _ => rs.length - (intOf i).toNat)
  case atStart => exact ⟨[], by simp, rfl, ⟨by simp, by simp⟩, HMa, HXa, HBa⟩
  case round =>
    clear HMa HXa HBa
    obtain ⟨l, hl, rfl, HRL, HM, HX, HB⟩ := hrel
    obtain ⟨k, hk⟩ : ∃ k, l.length = k := ⟨_, rfl⟩
    have HK := Aside0.mk hk
    rw [hk] at hl
    simp only [hk]
    clear hk
    by_cases hlt : k < rs.length
    · have hd : decide ((k : Int) < (rs.length : Int)) = true := decide_eq_true (by omega)
      have HLT := Aside0.mk hlt
      go_wp2_with fail
      go_loop [6, 7] (fun a n => ∃ at_ m : Nat, at_ < rs.length ∧ m ≤ rs.length + 1 ∧ a = .int .i64 at_ ∧ n = .int .i64 m ∧ Aside0 (chase rs (rs.length + 1) k = chase rs (rs.length + 1 - m) at_)) (fun _ n => rs.length + 2 - (intOf n).toNat)
      case atStart => exact ⟨k, 0, HLT.out, by omega, rfl, rfl, ⟨by rw [Nat.sub_zero]⟩⟩
      case round =>
        obtain ⟨at_, m, hat, hm, rfl, rfl, hch⟩ := hrel
        obtain ⟨ad, e1, x1, x2⟩ := res_at (HC.out.below HB.out).r at_ hat
        have hres := HX.out.res
        rw [e1] at hres
        have HAT := Aside0.mk hat
        have HMM := Aside0.mk hm
        have E1 := Aside0.mk e1
        clear e1
        obtain ⟨kd, hkd⟩ : ∃ kd, kindOf rs at_ = kd := ⟨_, rfl⟩
        rw [hkd] at x1
        by_cases hk2 : kd = 2
        · have hk2b : (kd == 2) = true := by simp [hk2]
          obtain ⟨hl0, hl1⟩ := HLK.out at_ hat (by rw [hkd, hk2])
          obtain ⟨q, hq⟩ := Int.eq_ofNat_of_zero_le hl0
          rw [hq] at x2 hl1
          have HQ := Aside0.mk (show q < rs.length by omega)
          by_cases hmx : rs.length < m
          · have hdm : decide ((rs.length : Int) < (m : Int)) = true := decide_eq_true (by omega)
            have HNO := Aside0.mk (show chase rs (rs.length + 1) k = none by
              rw [hch.out, show rs.length + 1 - m = 0 by omega]
              unfold chase
              rw [if_pos (by rw [hkd, hk2])])
            clear hq hl0 hl1 hkd hk2
            go_wp2_with fail
            go_ret2
            exact ⟨HB.out, .inl ⟨rfl, k, HLT.out, HNO.out⟩⟩
          · have hdm : decide ((rs.length : Int) < (m : Int)) = false := decide_eq_false (by omega)
            have HN := Aside0.mk (show chase rs (rs.length + 1) k = chase rs (rs.length + 1 - (m + 1)) q by
              rw [hch.out, show rs.length + 1 - m = (rs.length + 1 - (m + 1)) + 1 by omega]
              conv => lhs; unfold chase
              rw [if_pos (by rw [hkd, hk2]), hq]
              rfl)
            have HM1 := Aside0.mk (show m + 1 ≤ rs.length + 1 by omega)
            clear hq hl0 hl1 hkd hk2 hch
            go_wp2_with fail
            go_round
            case rel => exact ⟨q, m + 1, HQ.out, HM1.out, rfl, by go_num, HN⟩
            case measure => have := HM1.out; simp [intOf]; omega
        · have hk2b : (kd == 2) = false := by simp [hk2]
          have HN := Aside0.mk (show chase rs (rs.length + 1) k = some at_ by
            rw [hch.out]
            cases hz : rs.length + 1 - m <;> (unfold chase; rw [if_neg (by rw [hkd]; exact hk2)]))
          have HRN := Aside0.mk (show Roots rs (l ++ [at_]) by
            obtain ⟨r1, r2⟩ := HRL.out
            have hkk := HK.out
            refine ⟨by simp; have := HLT.out; omega, fun i hi => ?_⟩
            rw [List.length_append, List.length_singleton] at hi
            rcases Nat.lt_or_ge i l.length with h | h
            · rw [r2 i h, List.getD_eq_getElem?_getD, List.getD_eq_getElem?_getD, List.getElem?_append_left h]
            · obtain rfl : i = k := by omega
              rw [HN.out, List.getD_eq_getElem?_getD, List.getElem?_append_right h, hkk]
              simp)
          have HLN := Aside0.mk (show (l ++ [at_]).length = k + 1 by simp; exact HK.out)
          clear hkd hk2 hch
          obtain ⟨w2, hup, hm2, hg2⟩ := map_put HM.out at_ (by have := HK.out; have := HLT.out; omega)
          rw [HK.out] at hup
          have HO2 := Aside0.mk hm2
          have HX2 := Aside0.mk (HX.out.grown hg2 (by simp))
          have HB2 := Aside0.mk (HB.out.grown hg2 HB.out.size (fun j hj => by injection hj with hj; omega))
          clear hm2 hg2
          go_wp2_with fail
          go_roundw
          case rel => exact ⟨l ++ [at_], by rw [HLN.out]; exact HLT.out, by rw [HLN.out]; go_num, HRN, HO2, HX2, HB2⟩
          case measure => have := HLT.out; simp [intOf]; omega
    · have hd : decide ((k : Int) < (rs.length : Int)) = false := decide_eq_false (by omega)
      have HE := Aside0.mk (show l.length = rs.length by have := HK.out; omega)
      go_wp2_with fail
      go_ret2
      exact ⟨HB.out, .inr ⟨_, l, rfl, HM.out, HRL.out, HE.out, by omega⟩⟩
end Go.Proofs.Ytflkbheginhfiaa.XA
/- ceil.Check's closures: is a resource internal; how many of a list are. -/
namespace Go.Proofs.Ytflkbheginhfiaa.XA
set_option linter.unusedVariables false
set_option linter.unusedSimpArgs false
open Go.RowKit Go.WideMaps Go.Maps Go.Proofs.YtflkbheginhfiaaW.PrintWords Go.Proofs.YtflkbheginhfiaaW.PrintLast Go.Proofs.YtflkbheginhfiaaW.PrintMore
set_option maxRecDepth 1000000 in
set_option maxHeartbeats 1000000 in
theorem internal_calls (B : Nat) (x : CV) (AT : Option Addr) (cT : Nat) (AR : Option Addr) (cR : Nat) (AI : Option Addr) (cI : Nat) (ts : List S64) (rs : List S73) (is : List S66) (r : Nat) (w : World) (hX : BoxAt w B x AT cT AR cR AI cI ts.length rs.length is.length) (hC : Cfg w AT cT AR cR AI cI ts rs is) (hr : r < rs.length) :
    Calls Try.prog 29 #[.int .i64 r, .pointer (some ⟨B, 0, none⟩)] w fun e w' => e = .returned (.bool (kindOf rs r == 3)) ∧ w = w' := by
  obtain ⟨ad, e1, x1, x2⟩ := res_at hC.r r hr
  have hres := hX.res
  rw [e1] at hres
  clear e1 hX hC
  generalize kindOf rs r = kd at *
  go_enter Try.func29, Try.ntmps29
  go_wp2_with fail
  go_ret
  exact ⟨rfl, rfl⟩
/-- how many of a list are internal -/
def cntF (rs : List S73) (l : List Int) : Nat := (l.filter fun r => kindOf rs r.toNat == 3).length
theorem cnt_step (rs : List S73) (l : List Int) (k : Nat) (h : k < l.length) : cntF rs (l.take (k + 1)) = cntF rs (l.take k) + (if kindOf rs (l.getD k 0).toNat = 3 then 1 else 0) := by
  unfold cntF
  rw [List.take_succ_eq_append_getElem h, List.filter_append, List.length_append, List.getD_eq_getElem?_getD, List.getElem?_eq_getElem h]
  congr 1
  by_cases c : kindOf rs (l[k]).toNat = 3 <;> simp [c]
theorem cnt_le (rs : List S73) (l : List Int) : cntF rs l ≤ l.length := List.length_filter_le _ _
set_option maxRecDepth 1000000 in
set_option maxHeartbeats 1000000 in
theorem count_calls (B F : Nat) (x : CV) (AT : Option Addr) (cT : Nat) (AR : Option Addr) (cR : Nat) (AI : Option Addr) (cI : Nat) (ts : List S64) (rs : List S73) (is : List S66) (A : Option Addr) (c : Nat) (l : List Int) (w : World) (hX : BoxAt w B x AT cT AR cR AI cI ts.length rs.length is.length) (hC : Cfg w AT cT AR cR AI cI ts rs is) (hF : w.cell? ⟨F, 0, none⟩ = some (.func (.func 29) #[] #[.pointer (some ⟨B, 0, none⟩)]))
    (hl : (Kd.int .i64).C w A l.length l) (hc : l.length ≤ c) (hr : ∀ r ∈ l, 0 ≤ r ∧ r < rs.length) :
    Calls Try.prog 30 #[.slice A l.length c, .pointer (some ⟨F, 0, none⟩)] w fun e w' => e = .returned (.int .i64 (cntF rs l)) ∧ w = w' := by
  have HC := Aside0.mk hC
  have HX := Aside0.mk hX
  have HL := Aside0.mk hl
  have HR := Aside0.mk hr
  have hlen := hl.2.1
  clear hC hX hl hr
  go_enter Try.func30, Try.ntmps30
  go_wp2_with fail
  go_loop [4, 9] (fun n i => ∃ k : Nat, k ≤ l.length ∧ i = .int .i64 k ∧ n = .int .i64 (cntF rs (l.take k))) (fun _ i => l.length - (intOf i).toNat)
  case atStart => exact ⟨0, by omega, rfl, rfl⟩
  case round =>
    obtain ⟨k, hk, rfl, rfl⟩ := hrel
    by_cases hlt : k < l.length
    · have hd : decide ((k : Int) < (l.length : Int)) = true := decide_eq_true (by omega)
      obtain ⟨ad, rfl, hc0⟩ := (Kd.reads_of_C (d := (0 : Int)) HL.out).2.2 (by omega)
      have hx := hc0 k hlt
      have hst := cnt_step rs l k hlt
      have hle := cnt_le rs (l.take k)
      rw [List.length_take] at hle
      have hmem : l.getD k 0 ∈ l := by rw [List.getD_eq_getElem?_getD, List.getElem?_eq_getElem hlt]; exact List.getElem_mem hlt
      obtain ⟨h0, h1⟩ := HR.out _ hmem
      obtain ⟨r, hr0⟩ := Int.eq_ofNat_of_zero_le h0
      rw [hr0] at hx hst h1
      rw [show ((r : Int)).toNat = r from Int.toNat_natCast r] at hst
      have HRR := Aside0.mk (show r < rs.length by omega)
      have HST := Aside0.mk hst
      have HLE := Aside0.mk (show cntF rs (l.take k) ≤ k by omega)
      clear hc0 hmem h0 h1 hr0 hst hle
      generalize hn : cntF rs (l.take k) = n at *
      clear hn
      have hle := HLE.out
      go_wp2_with fail
      refine (internal_calls B x AT cT AR cR AI cI ts rs is r _ HX.out HC.out HRR.out).mono ?_
      rintro e w' ⟨rfl, rfl⟩
      by_cases ck : kindOf rs r = 3
      · have cb : (kindOf rs r == 3) = true := by simp [ck]
        have HN := Aside0.mk (show cntF rs (l.take (k + 1)) = n + 1 by rw [HST.out, if_pos ck])
        clear ck
        rw [cb]
        go_wp2_with fail
        go_round
        case rel => exact ⟨k + 1, by omega, by go_num, by rw [HN.out]; go_num⟩
        case measure => simp [intOf]; omega
      · have cb : (kindOf rs r == 3) = false := by simp [ck]
        have HN := Aside0.mk (show cntF rs (l.take (k + 1)) = n by rw [HST.out, if_neg ck]; rfl)
        clear ck
        rw [cb]
        go_wp2_with fail
        go_round
        case rel => exact ⟨k + 1, by omega, by go_num, by rw [HN.out]⟩
        case measure => simp [intOf]; omega
    · have hd : decide ((k : Int) < (l.length : Int)) = false := decide_eq_false (by omega)
      have HE := Aside0.mk (show l.take k = l from List.take_of_length_le (by omega))
      go_wp2_with fail
      go_ret
      exact ⟨by rw [HE.out]; rfl, rfl⟩
end Go.Proofs.Ytflkbheginhfiaa.XA
/- a struct loaded whole, as one step. -/
namespace Go.Proofs.Ytflkbheginhfiaa.XA
set_option linter.unusedVariables false
set_option linter.unusedSimpArgs false
open Go.RowKit Go.WideMaps Go.Maps Go.Proofs.YtflkbheginhfiaaW.PrintWords Go.Proofs.YtflkbheginhfiaaW.PrintLast Go.Proofs.YtflkbheginhfiaaW.PrintMore
theorem load_agg {w : World} {t n : Nat} {a : Addr} {cs : List Value} (hag : ∀ w : World, (isAgg t).run Try.prog w = .ok true w) (hsz : ∀ w : World, (sizeOf t).run Try.prog w = .ok n w) (hn : cs.length = n) (h : ∀ j v, cs[j]? = some v → w.cell? (a.add j) = some v) :
    (Instr.loadAt t (.pointer (some a))).run Try.prog w = .ok (.agg cs.toArray) w := by
  subst hn
  have h1 := run_loadCells_list (P := Try.prog) w a cs h
  simp [Instr.loadAt, Instr.sureAddr, loadVar, hag, hsz, h1, Result.andThen]
section
variable {ops : Array Oper} {rest : List Oper} {o : Oper} {a : Act} {Q : Exit → Act → World → Prop}
theorem agg36 (w : World) : (isAgg 36).run Try.prog w = .ok true w := by kernel_rfl
theorem size36 (w : World) : (sizeOf 36).run Try.prog w = .ok 18 w := by kernel_rfl
theorem agg64 (w : World) : (isAgg 64).run Try.prog w = .ok true w := by kernel_rfl
theorem size64 (w : World) : (sizeOf 64).run Try.prog w = .ok 8 w := by kernel_rfl
theorem load36 {w : World} {B : Nat} {x : CV} {AT : Option Addr} {cT : Nat} {AR : Option Addr} {cR : Nat} {AI : Option Addr} {cI : Nat} {nT nR nI : Nat} (hX : BoxAt w B x AT cT AR cR AI cI nT nR nI) (hgd : o.guard = none) (y : Operand) (ho : o.op = .load 36 y) (hy : a.eval y = .pointer (some ⟨B, 0, none⟩))
    (h : wpList Try.prog ops Q rest (a.put o.dst (.agg #[.string x.s0, .string x.s1, .bool x.b2, .bool x.b3, .bool x.b4, .bool x.b5, .bool x.b6, .bool x.b7, .bool x.b8, .bool x.b9, .slice x.A10 x.n10 x.c10, .slice AT nT cT, .slice AR nR cR, .slice x.A13 x.n13 x.c13, .slice x.A14 x.n14 x.c14, .slice x.A15 x.n15 x.c15, .slice AI nI cI, .slice x.A17 x.n17 x.c17])) w) : wpList Try.prog ops Q (o :: rest) a w := by
  refine Kd.event_run hgd (v := .agg #[.string x.s0, .string x.s1, .bool x.b2, .bool x.b3, .bool x.b4, .bool x.b5, .bool x.b6, .bool x.b7, .bool x.b8, .bool x.b9, .slice x.A10 x.n10 x.c10, .slice AT nT cT, .slice AR nR cR, .slice x.A13 x.n13 x.c13, .slice x.A14 x.n14 x.c14, .slice x.A15 x.n15 x.c15, .slice AI nI cI, .slice x.A17 x.n17 x.c17]) ?_ h
  have hl := load_agg (w := w) (t := 36) (n := 18) (a := ⟨B, 0, none⟩) (cs := (x.arr AT cT AR cR AI cI nT nR nI).toList) agg36 size36 rfl (fun j v hj => by
    have e : (⟨B, 0, none⟩ : Addr).add j = ⟨B, j, none⟩ := by unfold Addr.add; split <;> simp_all
    rw [e, hX.cell j]
    rw [← hj]
    simp)
  simp only [execOp, ho, hy]
  rw [Array.toArray_toList] at hl
  simp [hl, Result.andThen]
  rfl
/-- a task's cells -/
structure TaskAt (w : World) (ad : Addr) (k : Nat) (t : S64) (A4 : Option Addr) (c4 : Nat) (A5 : Option Addr) (c5 : Nat) (A6 : Option Addr) (c6 : Nat) (A7 : Option Addr) (c7 : Nat) : Prop where
  cells : ∀ j v, [Value.string t.f0, .int .i64 t.f1, .bool t.f2, .int .i64 t.f3, .slice A4 t.f4.length c4, .slice A5 t.f5.length c5, .slice A6 t.f6.length c6, .slice A7 t.f7.length c7][j]? = some v → w.cell? ((ad.add (k * 8)).add j) = some v
theorem load64 {w : World} {ad : Addr} {k : Nat} {t : S64} {A4 : Option Addr} {c4 : Nat} {A5 : Option Addr} {c5 : Nat} {A6 : Option Addr} {c6 : Nat} {A7 : Option Addr} {c7 : Nat} (hX : TaskAt w ad k t A4 c4 A5 c5 A6 c6 A7 c7) (hgd : o.guard = none) (y : Operand) (ho : o.op = .load 64 y) (hy : a.eval y = .pointer (some (ad.add (k * 8))))
    (h : wpList Try.prog ops Q rest (a.put o.dst (.agg #[.string t.f0, .int .i64 t.f1, .bool t.f2, .int .i64 t.f3, .slice A4 t.f4.length c4, .slice A5 t.f5.length c5, .slice A6 t.f6.length c6, .slice A7 t.f7.length c7])) w) : wpList Try.prog ops Q (o :: rest) a w := by
  refine Kd.event_run hgd (v := .agg #[.string t.f0, .int .i64 t.f1, .bool t.f2, .int .i64 t.f3, .slice A4 t.f4.length c4, .slice A5 t.f5.length c5, .slice A6 t.f6.length c6, .slice A7 t.f7.length c7]) ?_ h
  have hl := load_agg (w := w) (t := 64) (n := 8) (a := ad.add (k * 8)) agg64 size64 rfl hX.cells
  simp only [execOp, ho, hy]
  simp [hl, Result.andThen]
theorem agg66 (w : World) : (isAgg 66).run Try.prog w = .ok true w := by kernel_rfl
theorem size66 (w : World) : (sizeOf 66).run Try.prog w = .ok 5 w := by kernel_rfl
theorem agg73 (w : World) : (isAgg 73).run Try.prog w = .ok true w := by kernel_rfl
theorem size73 (w : World) : (sizeOf 73).run Try.prog w = .ok 3 w := by kernel_rfl
/-- an interrupt's cells -/
structure IsrAt (w : World) (ad : Addr) (k : Nat) (t : S66) (A3 : Option Addr) (c3 : Nat) (A4 : Option Addr) (c4 : Nat) : Prop where
  cells : ∀ j v, [Value.string t.f0, .int .i64 t.f1, .int .i64 t.f2, .slice A3 t.f3.length c3, .slice A4 t.f4.length c4][j]? = some v → w.cell? ((ad.add (k * 5)).add j) = some v
theorem load66 {w : World} {ad : Addr} {k : Nat} {t : S66} {A3 : Option Addr} {c3 : Nat} {A4 : Option Addr} {c4 : Nat} (hX : IsrAt w ad k t A3 c3 A4 c4) (hgd : o.guard = none) (y : Operand) (ho : o.op = .load 66 y) (hy : a.eval y = .pointer (some (ad.add (k * 5))))
    (h : wpList Try.prog ops Q rest (a.put o.dst (.agg #[.string t.f0, .int .i64 t.f1, .int .i64 t.f2, .slice A3 t.f3.length c3, .slice A4 t.f4.length c4])) w) : wpList Try.prog ops Q (o :: rest) a w := by
  refine Kd.event_run hgd (v := .agg #[.string t.f0, .int .i64 t.f1, .int .i64 t.f2, .slice A3 t.f3.length c3, .slice A4 t.f4.length c4]) ?_ h
  have hl := load_agg (w := w) (t := 66) (n := 5) (a := ad.add (k * 5)) agg66 size66 rfl hX.cells
  simp only [execOp, ho, hy]
  simp [hl, Result.andThen]
/-- a resource's cells -/
structure ResAt (w : World) (ad : Addr) (k : Nat) (t : S73) : Prop where
  cells : ∀ j v, [Value.string t.f0, .int .i64 t.f1, .int .i64 t.f2][j]? = some v → w.cell? ((ad.add (k * 3)).add j) = some v
theorem load73 {w : World} {ad : Addr} {k : Nat} {t : S73} (hX : ResAt w ad k t) (hgd : o.guard = none) (y : Operand) (ho : o.op = .load 73 y) (hy : a.eval y = .pointer (some (ad.add (k * 3))))
    (h : wpList Try.prog ops Q rest (a.put o.dst (.agg #[.string t.f0, .int .i64 t.f1, .int .i64 t.f2])) w) : wpList Try.prog ops Q (o :: rest) a w := by
  refine Kd.event_run hgd (v := .agg #[.string t.f0, .int .i64 t.f1, .int .i64 t.f2]) ?_ h
  have hl := load_agg (w := w) (t := 73) (n := 3) (a := ad.add (k * 3)) agg73 size73 rfl hX.cells
  simp only [execOp, ho, hy]
  simp [hl, Result.andThen]
theorem isr_cells {w : World} {A : Option Addr} {is : List S66} (h : k66.C w A is.length is) (k : Nat) (hk : k < is.length) :
    ∃ ad A3 c3 A4 c4, A = some ad ∧ IsrAt w ad k (is.getD k z66) A3 c3 A4 c4 ∧ (is.getD k z66).f3.length ≤ c3 ∧ (Kd.int .i64).C w A3 (is.getD k z66).f3.length (is.getD k z66).f3 := by
  obtain ⟨ad, c, e, _, hK, hc0⟩ := Kd.C_get h z66 (k : Int) (by omega) (by omega)
  rw [Int.toNat_natCast] at hK hc0
  obtain ⟨A3, c3, A4, c4, rfl, l3, g3, l4, g4⟩ := k66_open hK
  exact ⟨ad, A3, c3, A4, c4, e, ⟨fun j v hj => by rw [add_add]; exact hc0 j v hj⟩, l3, g3⟩
theorem res_cells {w : World} {A : Option Addr} {rs : List S73} (h : k73.C w A rs.length rs) (k : Nat) (hk : k < rs.length) : ∃ ad, A = some ad ∧ ResAt w ad k (rs.getD k z73) := by
  obtain ⟨ad, c, e, _, hK, hc0⟩ := Kd.C_get h z73 (k : Int) (by omega) (by omega)
  rw [Int.toNat_natCast] at hK hc0
  obtain rfl := k73_open hK
  exact ⟨ad, e, ⟨fun j v hj => by rw [add_add]; exact hc0 j v hj⟩⟩
theorem task_cells {w : World} {A : Option Addr} {ts : List S64} (h : k64.C w A ts.length ts) (k : Nat) (hk : k < ts.length) :
    ∃ ad A4 c4 A5 c5 A6 c6 A7 c7, A = some ad ∧ TaskAt w ad k (ts.getD k z64) A4 c4 A5 c5 A6 c6 A7 c7 ∧ (ts.getD k z64).f5.length ≤ c5 ∧ (Kd.int .i64).C w A5 (ts.getD k z64).f5.length (ts.getD k z64).f5 := by
  obtain ⟨ad, c, e, _, hK, hc0⟩ := Kd.C_get h z64 (k : Int) (by omega) (by omega)
  rw [Int.toNat_natCast] at hK hc0
  obtain ⟨A4, c4, A5, c5, A6, c6, A7, c7, rfl, l4, g4, l5, g5, l6, g6, l7, g7⟩ := k64_open hK
  exact ⟨ad, A4, c4, A5, c5, A6, c6, A7, c7, e, ⟨fun j v hj => by rw [add_add]; exact hc0 j v hj⟩, l5, g5⟩
end
end Go.Proofs.Ytflkbheginhfiaa.XA
