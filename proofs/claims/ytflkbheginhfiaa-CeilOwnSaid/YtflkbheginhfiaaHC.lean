/- ceil.Reckon's answer while it is made: five cells, four of them rows of its own; and the function that it hands to users. -/
import Derived.Test.YtflkbheginhfiaaHB
namespace Go.Proofs.Ytflkbheginhfiaa.XA
set_option linter.unusedVariables false
set_option linter.unusedSimpArgs false
open Go.RowKit Go.WideMaps Go.Maps Go.Proofs.YtflkbheginhfiaaW.PrintWords Go.Proofs.YtflkbheginhfiaaW.PrintLast Go.Proofs.YtflkbheginhfiaaW.PrintMore
def topL (L : List (Bool × Nat × Int)) : Int × Bool := L.foldl (fun s u => topF s u.2.2) (-1, false)
theorem topL_snoc (L : List (Bool × Nat × Int)) (u : Bool × Nat × Int) : topL (L ++ [u]) = topF (topL L) u.2.2 := by simp [topL]
def inv32 (B : Nat) (K : Nat → Prop) (L : List (Bool × Nat × Int)) (w : World) : Prop := TopAt w B (topL L).1 (topL L).2 ∧ ¬ K B ∧ ¬ K (B + 1)
theorem do32 (B : Nat) : DoFn 32 ⟨B + 1, 0, none⟩ ⟨B, 0, none⟩ (inv32 B) where
  keep := by
    intro K K' L w w' h hB hK
    have l1 := blk_lt h.1.1
    have l2 := blk_lt h.1.2
    refine ⟨⟨(hB.block _ l1).trans h.1.1, (hB.block _ l2).trans h.1.2⟩, fun hk => ?_, fun hk => ?_⟩
    · rcases hK _ hk with h1 | h1
      · exact h.2.1 h1
      · omega
    · rcases hK _ hk with h1 | h1
      · exact h.2.2 h1
      · omega
  call := by
    intro K L w b i p h _
    refine (reckon1_calls B b i p (topL L).1 (topL L).2 w h.1).mono ?_
    rintro e w' ⟨hv, ht, hs⟩
    refine ⟨hv, ⟨by rw [topL_snoc]; exact ht, h.2⟩, ⟨hs.os, hs.tape, hs.output, by rw [hs.size]; exact Nat.le_refl _, fun k hk _ => hs.block k (fun e => h.2.1 (e ▸ hk)) (fun e => h.2.2 (e ▸ hk))⟩⟩
/-- the four places of the rows -/
def Pl (i : Nat) : Prop := i = 0 ∨ i = 2 ∨ i = 3 ∨ i = 4
structure Out (w : World) (O b : Nat) (V : Nat → Value) (sch : Int) (L : Nat → List Int) : Prop where
  cell : w.heap[O]? = some (.cells #[V 0, .int .i64 sch, V 2, V 3, V 4] 41 (0, 0))
  row : ∀ i, Pl i → (Kd.int .i64).R 3 w b (fun _ => True) (V i) (L i)
  ne : ∀ i j, Pl i → Pl j → i ≠ j → ∀ g, (V i).ownBlock = some g → (V j).ownBlock ≠ some g
theorem row_self {w : World} {b : Nat} {ok : Nat → Prop} {u : Value} {xs : List Int} (h : (Kd.int .i64).R 3 w b ok u xs) : (Kd.int .i64).R 3 w b (fun g => u.ownBlock = some g) u xs := ⟨fun _ hk => hk, h.2⟩
theorem row_true {w : World} {b : Nat} {ok : Nat → Prop} {u : Value} {xs : List Int} (h : (Kd.int .i64).R 3 w b ok u xs) : (Kd.int .i64).R 3 w b (fun _ => True) u xs := ⟨fun _ _ => trivial, h.2⟩
theorem row_lt {w : World} {b : Nat} {ok : Nat → Prop} {u : Value} {xs : List Int} (h : (Kd.int .i64).R 3 w b ok u xs) (k : Nat) (hk : u.ownBlock = some k) : k < w.heap.size ∧ b ≤ k ∧ ∃ cs, w.heap[k]? = some (.cells cs 3 (0, 0)) := by
  obtain ⟨_, inner, ho, _⟩ := h
  exact ⟨own_lt ho k hk, own_base ho k hk, own_typed ho k hk⟩
theorem Out.lt {w : World} {O b : Nat} {V : Nat → Value} {sch : Int} {L : Nat → List Int} (h : Out w O b V sch L) : O < w.heap.size := blk_lt h.cell
theorem Out.off {w : World} {O b : Nat} {V : Nat → Value} {sch : Int} {L : Nat → List Int} (h : Out w O b V sch L) (i : Nat) (hi : Pl i) : (V i).ownBlock ≠ some O := fun e => by
  obtain ⟨_, _, cs, h1⟩ := row_lt (h.row i hi) O e
  rw [h.cell] at h1
  injection h1 with h1
  injection h1 with _ h1
  cases h1
theorem Out.move {w w1 : World} {O b : Nat} {V : Nat → Value} {sch : Int} {L : Nat → List Int} (h : Out w O b V sch L) (hm : ∀ k, k < w.heap.size → w1.heap[k]? = w.heap[k]?) : Out w1 O b V sch L :=
  ⟨(hm O h.lt).trans h.cell, fun i hi => Kd.R_step (h.row i hi) (fun k _ hk => hm k hk), h.ne⟩
theorem Out.below {w w1 : World} {O b : Nat} {V : Nat → Value} {sch : Int} {L : Nat → List Int} (h : Out w O b V sch L) (hB : Below w.heap.size w w1) : Out w1 O b V sch L := h.move hB.block
theorem Out.cells {w : World} {O b : Nat} {V : Nat → Value} {sch : Int} {L : Nat → List Int} (h : Out w O b V sch L) : w.cell? ⟨O, 0, none⟩ = some (V 0) ∧ w.cell? ⟨O, 1, none⟩ = some (.int .i64 sch) ∧ w.cell? ⟨O, 2, none⟩ = some (V 2) ∧ w.cell? ⟨O, 3, none⟩ = some (V 3) ∧ w.cell? ⟨O, 4, none⟩ = some (V 4) ∧ ∀ i, w.frozen? ⟨O, i, none⟩ = false := by
  have hc := h.cell
  exact ⟨by simp [World.cell?, hc], by simp [World.cell?, hc], by simp [World.cell?, hc], by simp [World.cell?, hc], by simp [World.cell?, hc], fun i => by simp [World.frozen?, hc]⟩
def upd {α : Type} (V : Nat → α) (i : Nat) (v : α) : Nat → α := fun j => if j = i then v else V j
theorem upd_same {α : Type} (V : Nat → α) (i : Nat) (v : α) : upd V i v i = v := if_pos rfl
theorem upd_other {α : Type} (V : Nat → α) {i j : Nat} (v : α) (h : j ≠ i) : upd V i v j = V j := if_neg h
/-- a number is appended to the i-th row, and the row stored -/
theorem Out.app {w w1 : World} {O b : Nat} {V : Nat → Value} {sch : Int} {L : Nat → List Int} (h : Out w O b V sch L) (i : Nat) (hi : Pl i) (v1 : Value) (x : Int) (hr : (Kd.int .i64).R 3 w1 b (fun _ => True) v1 (L i ++ [x])) (hg : w.grownBy w1 (V i).ownBlock) (hat : v1.ownBlock = (V i).ownBlock ∨ ∃ q, v1.ownBlock = some q ∧ w.heap.size ≤ q) :
    Out (w1.setCell ⟨O, i, none⟩ v1) O b (upd V i v1) sch (upd L i (L i ++ [x])) := by
  have hO : w1.heap[O]? = some (.cells #[V 0, .int .i64 sch, V 2, V 3, V 4] 41 (0, 0)) := (hg.block O h.lt (fun e => h.off i hi e.symm)).trans h.cell
  have hv1 : v1.ownBlock ≠ some O := fun e => by
    obtain ⟨_, _, cs, h1⟩ := row_lt hr O e
    rw [hO] at h1
    injection h1 with h1
    injection h1 with _ h1
    cases h1
  have hne1 : ∀ j, Pl j → j ≠ i → ∀ g, v1.ownBlock = some g → (V j).ownBlock ≠ some g := fun j hj hji g hg1 hg2 => by
    rcases hat with e | ⟨q, e, hq⟩
    · exact h.ne i j hi hj (fun e2 => hji e2.symm) g (by rw [← e]; exact hg1) hg2
    · have := (row_lt (h.row j hj) g hg2).1
      rw [e] at hg1
      injection hg1 with hg1
      omega
  have hrows : ∀ j, Pl j → (Kd.int .i64).R 3 w1 b (fun _ => True) (upd V i v1 j) (upd L i (L i ++ [x]) j) := fun j hj => by
    by_cases e : j = i
    · subst e
      rw [upd_same, upd_same]
      exact hr
    · rw [upd_other V v1 e, upd_other L _ e]
      exact row_true (Kd.R_grown (row_self (h.row j hj)) hg (fun k hk e2 => h.ne i j hi hj (fun e3 => e e3.symm) k e2.symm hk))
  refine ⟨?_, fun j hj => row_true (Kd.R_far (row_self (hrows j hj)) (fun k hk e2 => ?_) v1), fun j l hj hl hjl g hg1 hg2 => ?_⟩
  · rcases hi with rfl | rfl | rfl | rfl <;> simp [World.setCell, Array.getElem?_modify, hO, upd]
  · have e2 : k = O := e2
    subst e2
    by_cases e : j = i
    · subst e
      rw [upd_same] at hk
      exact hv1 hk
    · rw [upd_other V v1 e] at hk
      exact h.off j hj hk
  · by_cases e : j = i
    · subst e
      rw [upd_same] at hg1
      rw [upd_other V v1 (fun e => hjl e.symm)] at hg2
      exact hne1 l hl (fun e => hjl e.symm) g hg1 hg2
    · rw [upd_other V v1 e] at hg1
      by_cases e2 : l = i
      · subst e2
        rw [upd_same] at hg2
        exact hne1 j hj e g hg2 hg1
      · rw [upd_other V v1 e2] at hg2
        exact h.ne j l hj hl hjl g hg1 hg2
theorem Out.sch_set {w : World} {O b : Nat} {V : Nat → Value} {sch : Int} {L : Nat → List Int} (h : Out w O b V sch L) (s : Int) : Out (w.setCell ⟨O, 1, none⟩ (.int .i64 s)) O b V s L := by
  refine ⟨?_, fun j hj => row_true (Kd.R_far (row_self (h.row j hj)) (fun k hk e2 => ?_) _), h.ne⟩
  · simp [World.setCell, Array.getElem?_modify, h.cell]
  · have e2 : k = O := e2
    subst e2
    exact h.off j hj hk
end Go.Proofs.Ytflkbheginhfiaa.XA
/- ceil.Reckon: what lies beside the answer while it is made. -/
namespace Go.Proofs.Ytflkbheginhfiaa.XA
set_option linter.unusedVariables false
set_option linter.unusedSimpArgs false
open Go.RowKit Go.WideMaps Go.Maps Go.Proofs.YtflkbheginhfiaaW.PrintWords Go.Proofs.YtflkbheginhfiaaW.PrintLast Go.Proofs.YtflkbheginhfiaaW.PrintMore
def zeroV : Value := .slice none 0 0
/-- the block of the answer, not yet written -/
def ZeroAt (w : World) (P : Nat) : Prop := w.heap[P]? = some (.cells #[.slice none 0 0, .int .i64 0, .slice none 0 0, .slice none 0 0, .slice none 0 0] 41 (0, 0))
theorem ZeroAt.below {w w1 : World} {P : Nat} (h : ZeroAt w P) (hB : Below w.heap.size w w1) : ZeroAt w1 P := (hB.block P (blk_lt h)).trans h
theorem ZeroAt.cells {w : World} {P : Nat} (h : ZeroAt w P) : w.cell? ⟨P, 0, none⟩ = some (.slice none 0 0) ∧ w.cell? ⟨P, 1, none⟩ = some (.int .i64 0) ∧ w.cell? ⟨P, 2, none⟩ = some (.slice none 0 0) ∧ w.cell? ⟨P, 3, none⟩ = some (.slice none 0 0) ∧ w.cell? ⟨P, 4, none⟩ = some (.slice none 0 0) ∧ ∀ i, w.frozen? ⟨P, i, none⟩ = false := by
  unfold ZeroAt at h
  exact ⟨by simp [World.cell?, h], by simp [World.cell?, h], by simp [World.cell?, h], by simp [World.cell?, h], by simp [World.cell?, h], fun i => by simp [World.frozen?, h]⟩
def Z4 (i : Nat) : List Int := []
theorem agg41 (w : World) : (isAgg 41).run Try.prog w = .ok true w := by kernel_rfl
theorem size41 (w : World) : (sizeOf 41).run Try.prog w = .ok 5 w := by kernel_rfl
/-- a resource's ceiling -/
def ceilF (ts : List S64) (rs : List S73) (is : List S66) (q : Nat) : Int := (topL (taskUsers rs ts q ts.length ++ isrUsers rs is q is.length)).1
def ceilsF (ts : List S64) (rs : List S73) (is : List S66) (k : Nat) : List Int := (List.range k).map fun q => ceilF ts rs is q
theorem ceils_snoc (ts : List S64) (rs : List S73) (is : List S66) (k : Nat) : ceilsF ts rs is (k + 1) = ceilsF ts rs is k ++ [ceilF ts rs is k] := by
  unfold ceilsF
  rw [List.range_succ, List.map_append]
  rfl
theorem ceils_len (ts : List S64) (rs : List S73) (is : List S66) (k : Nat) : (ceilsF ts rs is k).length = k := by simp [ceilsF]
/-- the scheduler's priority, k tasks in -/
def schF (ts : List S64) : Nat → Int
  | 0 => -1
  | k + 1 => max (if k = 0 then (ts.getD k z64).f1 else schF ts k) (ts.getD k z64).f1
/-- what lies beside the answer -/
structure Env (x : CV) (AT : Option Addr) (cT : Nat) (AR : Option Addr) (cR : Nat) (AI : Option Addr) (cI : Nat) (nT nR nI : Nat) (Bm : Nat) (lm : List Nat) (W O : Nat) (w : World) : Prop where
  box : BoxAt w W x AT cT AR cR AI cI nT nR nI
  zero : ZeroAt w (W + 1)
  map : MapAt w Bm lm
  off : W < O ∧ W + 1 < O ∧ Bm < O
theorem Env.below {x : CV} {AT : Option Addr} {cT : Nat} {AR : Option Addr} {cR : Nat} {AI : Option Addr} {cI : Nat} {nT nR nI Bm : Nat} {lm : List Nat} {W O : Nat} {w w1 : World} (h : Env x AT cT AR cR AI cI nT nR nI Bm lm W O w) (hB : Below w.heap.size w w1) : Env x AT cT AR cR AI cI nT nR nI Bm lm W O w1 := ⟨h.box.below hB, h.zero.below hB, h.map.below hB, h.off⟩
theorem Env.set {x : CV} {AT : Option Addr} {cT : Nat} {AR : Option Addr} {cR : Nat} {AI : Option Addr} {cI : Nat} {nT nR nI Bm : Nat} {lm : List Nat} {W O : Nat} {w : World} (h : Env x AT cT AR cR AI cI nT nR nI Bm lm W O w) (i : Nat) (v : Value) : Env x AT cT AR cR AI cI nT nR nI Bm lm W O (w.setCell ⟨O, i, none⟩ v) :=
  ⟨(Below.heap_setCell w ⟨O, i, none⟩ v W (by have := h.off; show W ≠ O; omega)).trans h.box, (Below.heap_setCell w ⟨O, i, none⟩ v (W + 1) (by have := h.off; show W + 1 ≠ O; omega)).trans h.zero, ⟨(Below.heap_setCell w ⟨O, i, none⟩ v Bm (by have := h.off; show Bm ≠ O; omega)).trans h.map.1, h.map.2⟩, h.off⟩
theorem Out.apart {w : World} {O b : Nat} {V : Nat → Value} {sch : Int} {L : Nat → List Int} (h : Out w O b V sch L) (i : Nat) (hi : Pl i) {g : Nat} {o : Obj} (hg : w.heap[g]? = some o) (hne : ∀ cs, o ≠ .cells cs 3 (0, 0)) : some g ≠ (V i).ownBlock := fun e => by
  obtain ⟨_, _, cs, h1⟩ := row_lt (h.row i hi) g e.symm
  rw [hg] at h1
  injection h1 with h1
  exact hne cs h1
theorem Env.grown {x : CV} {AT : Option Addr} {cT : Nat} {AR : Option Addr} {cR : Nat} {AI : Option Addr} {cI : Nat} {nT nR nI Bm : Nat} {lm : List Nat} {W O b : Nat} {w w1 : World} {V : Nat → Value} {sch : Int} {L : Nat → List Int} (h : Env x AT cT AR cR AI cI nT nR nI Bm lm W O w) (ho : Out w O b V sch L) (i : Nat) (hi : Pl i) (hg : w.grownBy w1 (V i).ownBlock) : Env x AT cT AR cR AI cI nT nR nI Bm lm W O w1 :=
  ⟨(hg.block _ h.box.lt (ho.apart i hi h.box (fun cs e => by cases e))).trans h.box, (hg.block _ (blk_lt h.zero) (ho.apart i hi h.zero (fun cs e => by cases e))).trans h.zero, ⟨(hg.block _ (map_lt h.map) (ho.apart i hi h.map.1 (fun cs e => by cases e))).trans h.map.1, h.map.2⟩, h.off⟩
theorem Out.after {w w1 : World} {O b : Nat} {V : Nat → Value} {sch : Int} {L : Nat → List Int} (h : Out w O b V sch L) (i : Nat) (hi : Pl i) (hg : w.grownBy w1 (V i).ownBlock) : w1.cell? ⟨O, 0, none⟩ = some (V 0) ∧ w1.cell? ⟨O, 1, none⟩ = some (.int .i64 sch) ∧ w1.cell? ⟨O, 2, none⟩ = some (V 2) ∧ w1.cell? ⟨O, 3, none⟩ = some (V 3) ∧ w1.cell? ⟨O, 4, none⟩ = some (V 4) ∧ ∀ i, w1.frozen? ⟨O, i, none⟩ = false := by
  have hc := (hg.block O h.lt (fun e => h.off i hi e.symm)).trans h.cell
  exact ⟨by simp [World.cell?, hc], by simp [World.cell?, hc], by simp [World.cell?, hc], by simp [World.cell?, hc], by simp [World.cell?, hc], fun i => by simp [World.frozen?, hc]⟩
theorem TopAt.cell {w : World} {B : Nat} {top : Int} {any : Bool} (h : TopAt w B top any) : w.cell? ⟨B, 0, none⟩ = some (.int .i64 top) := by simp [World.cell?, h.1]
/-- all that stands while the answer is made -/
structure St (x : CV) (AT : Option Addr) (cT : Nat) (AR : Option Addr) (cR : Nat) (AI : Option Addr) (cI : Nat) (nT nR nI : Nat) (Bm : Nat) (lm : List Nat) (O : Nat) (w0 : World) (V : Nat → Value) (sch : Int) (L : Nat → List Int) (w : World) : Prop where
  out : Out w O w0.heap.size V sch L
  env : Env x AT cT AR cR AI cI nT nR nI Bm lm w0.heap.size O w
  bel : Below w0.heap.size w0 w
theorem St.below {x : CV} {AT : Option Addr} {cT : Nat} {AR : Option Addr} {cR : Nat} {AI : Option Addr} {cI : Nat} {nT nR nI Bm : Nat} {lm : List Nat} {O : Nat} {w0 w w1 : World} {V : Nat → Value} {sch : Int} {L : Nat → List Int} (h : St x AT cT AR cR AI cI nT nR nI Bm lm O w0 V sch L w) (hB : Below w.heap.size w w1) : St x AT cT AR cR AI cI nT nR nI Bm lm O w0 V sch L w1 := ⟨h.out.below hB, h.env.below hB, h.bel.trans (hB.mono h.bel.size)⟩
theorem St.app {x : CV} {AT : Option Addr} {cT : Nat} {AR : Option Addr} {cR : Nat} {AI : Option Addr} {cI : Nat} {nT nR nI Bm : Nat} {lm : List Nat} {O : Nat} {w0 w w1 : World} {V : Nat → Value} {sch : Int} {L : Nat → List Int} (h : St x AT cT AR cR AI cI nT nR nI Bm lm O w0 V sch L w) (i : Nat) (hi : Pl i) (v1 : Value) (p : Int) (hr : (Kd.int .i64).R 3 w1 w0.heap.size (fun _ => True) v1 (L i ++ [p])) (hb : Below w0.heap.size w0 w1) (hg : w.grownBy w1 (V i).ownBlock) (ha : v1.ownBlock = (V i).ownBlock ∨ ∃ q, v1.ownBlock = some q ∧ w.heap.size ≤ q) :
    St x AT cT AR cR AI cI nT nR nI Bm lm O w0 (upd V i v1) sch (upd L i (L i ++ [p])) (w1.setCell ⟨O, i, none⟩ v1) :=
  ⟨h.out.app i hi v1 p hr hg ha, (h.env.grown h.out i hi hg).set i v1, hb.setCell (by have := h.env.off; show w0.heap.size ≤ O; omega) v1⟩
theorem St.sch_set {x : CV} {AT : Option Addr} {cT : Nat} {AR : Option Addr} {cR : Nat} {AI : Option Addr} {cI : Nat} {nT nR nI Bm : Nat} {lm : List Nat} {O : Nat} {w0 w : World} {V : Nat → Value} {sch : Int} {L : Nat → List Int} (h : St x AT cT AR cR AI cI nT nR nI Bm lm O w0 V sch L w) (s : Int) : St x AT cT AR cR AI cI nT nR nI Bm lm O w0 V s L (w.setCell ⟨O, 1, none⟩ (.int .i64 s)) :=
  ⟨h.out.sch_set s, h.env.set 1 _, h.bel.setCell (by have := h.env.off; show w0.heap.size ≤ O; omega) _⟩
theorem St.lt {x : CV} {AT : Option Addr} {cT : Nat} {AR : Option Addr} {cR : Nat} {AI : Option Addr} {cI : Nat} {nT nR nI Bm : Nat} {lm : List Nat} {O : Nat} {w0 w : World} {V : Nat → Value} {sch : Int} {L : Nat → List Int} (h : St x AT cT AR cR AI cI nT nR nI Bm lm O w0 V sch L w) : O < w.heap.size := h.out.lt
theorem row_slice {w : World} {b : Nat} {ok : Nat → Prop} {v : Value} {l : List Int} {p : Int} (h : (Kd.int .i64).R 3 w b ok v (l ++ [p])) : ∃ A c, v = .slice A (l.length + 1) c := by
  obtain ⟨A, c, e⟩ := Kd.R_slice h
  exact ⟨A, c, by rw [e, List.length_append]; rfl⟩
theorem ceils_get (ts : List S64) (rs : List S73) (is : List S66) (n r : Nat) (h : r < n) : (ceilsF ts rs is n).getD r 0 = ceilF ts rs is r := by
  unfold ceilsF
  rw [List.getD_eq_getElem?_getD, List.getElem?_map, List.getElem?_range h]
  rfl
theorem rises_len (n : Nat) : ∀ (l : List Int) (last : Int), -1 ≤ last → last < n → risesF n last l = true → (l.length : Int) ≤ n - 1 - last
  | [], last, h0, h1, _ => by simp; omega
  | q :: l, last, h0, h1, h => by
    unfold risesF at h
    split at h
    · cases h
    · have := rises_len n l q (by omega) (by omega) h
      simp
      omega
theorem rises_le (n : Nat) (l : List Int) (h : risesF n (-1) l = true) : l.length ≤ n := by
  have := rises_len n l (-1) (by omega) (by omega) h
  omega
/-! ### the tasks -/
def runP (ts : List S64) (rs : List S73) (is : List S66) (l : List Int) (p : Int) : Int := l.foldl (fun p r => if kindOf rs r.toNat = 3 then max p (ceilF ts rs is r.toNat) else p) p
def runN (rs : List S73) (l : List Int) : Int := l.foldl (fun n r => if kindOf rs r.toNat = 3 then n else n + 1) 0
theorem take_snoc (l : List Int) (k : Nat) (h : k < l.length) : l.take (k + 1) = l.take k ++ [l.getD k 0] := by
  rw [List.take_succ_eq_append_getElem h, List.getD_eq_getElem?_getD, List.getElem?_eq_getElem h]
  rfl
theorem runP_step (ts : List S64) (rs : List S73) (is : List S66) (l : List Int) (p : Int) (k : Nat) (h : k < l.length) : runP ts rs is (l.take (k + 1)) p = if kindOf rs (l.getD k 0).toNat = 3 then max (runP ts rs is (l.take k) p) (ceilF ts rs is (l.getD k 0).toNat) else runP ts rs is (l.take k) p := by
  unfold runP
  rw [take_snoc l k h, List.foldl_append]
  rfl
theorem runN_step (rs : List S73) (l : List Int) (k : Nat) (h : k < l.length) : runN rs (l.take (k + 1)) = if kindOf rs (l.getD k 0).toNat = 3 then runN rs (l.take k) else runN rs (l.take k) + 1 := by
  unfold runN
  rw [take_snoc l k h, List.foldl_append]
  rfl
theorem runN_le (rs : List S73) (l : List Int) (k : Nat) (h : k ≤ l.length) : 0 ≤ runN rs (l.take k) ∧ runN rs (l.take k) ≤ k := by
  induction k with
  | zero => simp [runN]
  | succ k ih =>
    have ih := ih (by omega)
    rw [runN_step rs l k (by omega)]
    split <;> omega
def runF (ts : List S64) (rs : List S73) (is : List S66) (t : S64) : Int := if t.f2 then runP ts rs is t.f5 t.f1 else max (runP ts rs is t.f5 t.f1) (schF ts ts.length)
def cntT (rs : List S73) (b : Bool) (t : S64) : Int := if b then runN rs t.f5 + 1 else runN rs t.f5
def runsF (ts : List S64) (rs : List S73) (is : List S66) (k : Nat) : List Int := (List.range k).map fun j => runF ts rs is (ts.getD j z64)
def cntsF (ts : List S64) (rs : List S73) (b : Bool) (k : Nat) : List Int := (List.range k).map fun j => cntT rs b (ts.getD j z64)
def isrsF (is : List S66) (k : Nat) : List Int := (List.range k).map fun j => ((is.getD j z66).f3.length : Int)
theorem runs_snoc (ts : List S64) (rs : List S73) (is : List S66) (k : Nat) : runsF ts rs is (k + 1) = runsF ts rs is k ++ [runF ts rs is (ts.getD k z64)] := by
  unfold runsF
  rw [List.range_succ, List.map_append]
  rfl
theorem cnts_snoc (ts : List S64) (rs : List S73) (b : Bool) (k : Nat) : cntsF ts rs b (k + 1) = cntsF ts rs b k ++ [cntT rs b (ts.getD k z64)] := by
  unfold cntsF
  rw [List.range_succ, List.map_append]
  rfl
theorem isrs_snoc (is : List S66) (k : Nat) : isrsF is (k + 1) = isrsF is k ++ [((is.getD k z66).f3.length : Int)] := by
  unfold isrsF
  rw [List.range_succ, List.map_append]
  rfl
theorem runs_len (ts : List S64) (rs : List S73) (is : List S66) (k : Nat) : (runsF ts rs is k).length = k := by simp [runsF]
theorem cnts_len (ts : List S64) (rs : List S73) (b : Bool) (k : Nat) : (cntsF ts rs b k).length = k := by simp [cntsF]
theorem isrs_len (is : List S66) (k : Nat) : (isrsF is k).length = k := by simp [isrsF]
/-! ### the answer written -/
def put5 (w : World) (P : Nat) (v0 v1 v2 v3 v4 : Value) : World := ((((w.setCell ⟨P, 0, none⟩ v0).setCell ⟨P, 1, none⟩ v1).setCell ⟨P, 2, none⟩ v2).setCell ⟨P, 3, none⟩ v3).setCell ⟨P, 4, none⟩ v4
theorem put5_heap {w : World} {P : Nat} (h : ZeroAt w P) (v0 v1 v2 v3 v4 : Value) : (put5 w P v0 v1 v2 v3 v4).heap[P]? = some (.cells #[v0, v1, v2, v3, v4] 41 (0, 0)) := by
  unfold ZeroAt at h
  simp [put5, World.setCell, Array.getElem?_modify, h]
theorem put5_below {w0 w : World} {P : Nat} (h : Below w0.heap.size w0 w) (hP : w0.heap.size ≤ P) (v0 v1 v2 v3 v4 : Value) : Below w0.heap.size w0 (put5 w P v0 v1 v2 v3 v4) :=
  ((((h.setCell (p := ⟨P, 0, none⟩) hP v0).setCell (p := ⟨P, 1, none⟩) hP v1).setCell (p := ⟨P, 2, none⟩) hP v2).setCell (p := ⟨P, 3, none⟩) hP v3).setCell (p := ⟨P, 4, none⟩) hP v4
theorem far1 {w : World} {b P i : Nat} {v u : Value} {xs : List Int} (h : (Kd.int .i64).R 3 w b (fun _ => True) v xs) (hne : v.ownBlock ≠ some P) : (Kd.int .i64).R 3 (w.setCell ⟨P, i, none⟩ u) b (fun _ => True) v xs :=
  row_true (Kd.R_far (row_self h) (fun k hk e => by have e : k = P := e; subst e; exact hne hk) u)
theorem put5_row {w : World} {b P : Nat} {v : Value} {xs : List Int} (h : (Kd.int .i64).R 3 w b (fun _ => True) v xs) (hne : v.ownBlock ≠ some P) (v0 v1 v2 v3 v4 : Value) : (Kd.int .i64).R 3 (put5 w P v0 v1 v2 v3 v4) b (fun _ => True) v xs :=
  far1 (far1 (far1 (far1 (far1 h hne) hne) hne) hne) hne
/-- what Reckon answers -/
def ReckonIs (ts : List S64) (rs : List S73) (is : List S66) (b9 : Bool) (sch : Int) (L : Nat → List Int) (er : Int) : Prop :=
  CheckSays ts rs is er ∧ (er ≠ 0 ∧ sch = 0 ∧ (∀ i, L i = []) ∨ er = 0 ∧ sch = schF ts ts.length ∧ L 0 = ceilsF ts rs is rs.length ∧ L 2 = runsF ts rs is ts.length ∧ L 3 = cntsF ts rs b9 ts.length ∧ L 4 = isrsF is is.length)
/-- the answer's rows -/
structure Rows (w : World) (b : Nat) (V : Nat → Value) (L : Nat → List Int) : Prop where
  row : ∀ i, Pl i → (Kd.int .i64).R 3 w b (fun _ => True) (V i) (L i)
  ne : ∀ i j, Pl i → Pl j → i ≠ j → ∀ g, (V i).ownBlock = some g → (V j).ownBlock ≠ some g
theorem St.fin {x : CV} {AT : Option Addr} {cT : Nat} {AR : Option Addr} {cR : Nat} {AI : Option Addr} {cI : Nat} {nT nR nI Bm : Nat} {lm : List Nat} {O : Nat} {w0 w : World} {V : Nat → Value} {sch : Int} {L : Nat → List Int} (h : St x AT cT AR cR AI cI nT nR nI Bm lm O w0 V sch L w) (v0 v1 v2 v3 v4 : Value) :
    Below w0.heap.size w0 (put5 w (w0.heap.size + 1) v0 v1 v2 v3 v4) ∧ Rows (put5 w (w0.heap.size + 1) v0 v1 v2 v3 v4) w0.heap.size V L :=
  ⟨put5_below h.bel (by omega) v0 v1 v2 v3 v4, fun i hi => put5_row (h.out.row i hi) (fun e => h.out.apart i hi h.env.zero (fun cs e => by cases e) e.symm) v0 v1 v2 v3 v4, h.out.ne⟩
end Go.Proofs.Ytflkbheginhfiaa.XA
/- ceil.Reckon: the contract. -/
namespace Go.Proofs.Ytflkbheginhfiaa.XA
set_option linter.unusedVariables false
set_option linter.unusedSimpArgs false
open Go.RowKit Go.WideMaps Go.Maps Go.Proofs.YtflkbheginhfiaaW.PrintWords Go.Proofs.YtflkbheginhfiaaW.PrintLast Go.Proofs.YtflkbheginhfiaaW.PrintMore
set_option maxRecDepth 1000000 in
set_option maxHeartbeats 4000000 in
theorem reckon_calls (x : CV) (AT : Option Addr) (cT : Nat) (AR : Option Addr) (cR : Nat) (AI : Option Addr) (cI : Nat) (ts : List S64) (rs : List S73) (is : List S66) (w : World) (hC : Cfg w AT cT AR cR AI cI ts rs is) (hsz : rs.length ≤ 4398046511104) (ht : ts.length ≤ 4398046511104) (hi : is.length ≤ 4398046511104) :
    Calls Try.prog 12 #[.agg #[.string x.s0, .string x.s1, .bool x.b2, .bool x.b3, .bool x.b4, .bool x.b5, .bool x.b6, .bool x.b7, .bool x.b8, .bool x.b9, .slice x.A10 x.n10 x.c10, .slice AT ts.length cT, .slice AR rs.length cR, .slice x.A13 x.n13 x.c13, .slice x.A14 x.n14 x.c14, .slice x.A15 x.n15 x.c15, .slice AI is.length cI, .slice x.A17 x.n17 x.c17]] w fun e w' => Below w.heap.size w w' ∧ ∃ V sch L er, e = .returned (.tuple #[.agg #[V 0, .int .i64 sch, V 2, V 3, V 4], .int .i64 er]) ∧ Rows w' w.heap.size V L ∧ ReckonIs ts rs is x.b9 sch L er := by
  have HC := Aside0.mk hC
  clear hC
  have HBX := Aside0.mk ((BoxAt.made w x AT cT AR cR AI cI ts.length rs.length is.length).below ((Below.refl _ _).alloc (Nat.le_refl _) (.cells #[.slice none 0 0, .int .i64 0, .slice none 0 0, .slice none 0 0, .slice none 0 0] 41)))
  have HB0 := Aside0.mk (show Below w.heap.size w ((w.alloc (.cells #[.string x.s0, .string x.s1, .bool x.b2, .bool x.b3, .bool x.b4, .bool x.b5, .bool x.b6, .bool x.b7, .bool x.b8, .bool x.b9, .slice x.A10 x.n10 x.c10, .slice AT ts.length cT, .slice AR rs.length cR, .slice x.A13 x.n13 x.c13, .slice x.A14 x.n14 x.c14, .slice x.A15 x.n15 x.c15, .slice AI is.length cI, .slice x.A17 x.n17 x.c17] 36)).alloc (.cells #[.slice none 0 0, .int .i64 0, .slice none 0 0, .slice none 0 0, .slice none 0 0] 41)) from ((Below.refl _ _).alloc (Nat.le_refl _) _).alloc (by simp) _)
  have HZ0 := Aside0.mk (show ZeroAt ((w.alloc (.cells #[.string x.s0, .string x.s1, .bool x.b2, .bool x.b3, .bool x.b4, .bool x.b5, .bool x.b6, .bool x.b7, .bool x.b8, .bool x.b9, .slice x.A10 x.n10 x.c10, .slice AT ts.length cT, .slice AR rs.length cR, .slice x.A13 x.n13 x.c13, .slice x.A14 x.n14 x.c14, .slice x.A15 x.n15 x.c15, .slice AI is.length cI, .slice x.A17 x.n17 x.c17] 36)).alloc (.cells #[.slice none 0 0, .int .i64 0, .slice none 0 0, .slice none 0 0, .slice none 0 0] 41)) (w.heap.size + 1) from by
    have h := heap_alloc_new (w.alloc (.cells #[.string x.s0, .string x.s1, .bool x.b2, .bool x.b3, .bool x.b4, .bool x.b5, .bool x.b6, .bool x.b7, .bool x.b8, .bool x.b9, .slice x.A10 x.n10 x.c10, .slice AT ts.length cT, .slice AR rs.length cR, .slice x.A13 x.n13 x.c13, .slice x.A14 x.n14 x.c14, .slice x.A15 x.n15 x.c15, .slice AI is.length cI, .slice x.A17 x.n17 x.c17] 36)) (.cells #[.slice none 0 0, .int .i64 0, .slice none 0 0, .slice none 0 0, .slice none 0 0] 41)
    rw [World.size_alloc] at h
    exact h)
  have HCK := Aside0.mk (check_calls x AT cT AR cR AI cI ts rs is _ (HC.out.below HB0.out) hsz ht hi)
  unfold CV.arr at HBX
  go_enter Try.func12, Try.ntmps12
  go_wp2_with (first | ((with_reducible refine gate_dst (N := 21) rfl ?_); refine load36 HBX.out rfl (.tmp 1) rfl rfl ?_))
  generalize (w.alloc (.cells #[.string x.s0, .string x.s1, .bool x.b2, .bool x.b3, .bool x.b4, .bool x.b5, .bool x.b6, .bool x.b7, .bool x.b8, .bool x.b9, .slice x.A10 x.n10 x.c10, .slice AT ts.length cT, .slice AR rs.length cR, .slice x.A13 x.n13 x.c13, .slice x.A14 x.n14 x.c14, .slice x.A15 x.n15 x.c15, .slice AI is.length cI, .slice x.A17 x.n17 x.c17] 36)).alloc (.cells #[.slice none 0 0, .int .i64 0, .slice none 0 0, .slice none 0 0, .slice none 0 0] 41) = w0 at *
  have HBX : Aside0 (BoxAt w0 w.heap.size x AT cT AR cR AI cI ts.length rs.length is.length) := HBX
  refine HCK.out.mono ?_
  rintro e w1 ⟨B1, v, rfl, hsay⟩
  have HX := Aside0.mk (HBX.out.below B1)
  have HB := Aside0.mk (HB0.out.trans (B1.mono HB0.out.size))
  have HZ := Aside0.mk (HZ0.out.below B1)
  have HS := Aside0.mk hsay
  clear B1 hsay HBX HB0 HCK HZ0
  by_cases hv : v = 0
  · subst hv
    have HZO := Aside0.mk (says_zero HS.out)
    have hcw := HC.out.below HB.out
    have HRT := Aside0.mk (roots_calls x AT cT AR cR AI cI ts rs is w1 hcw HZO.out.1.links hsz)
    clear hcw
    go_wp2_with (first | ((with_reducible refine gate_dst (N := 28) rfl ?_); refine load36 HX.out rfl (.tmp 1) rfl rfl ?_))
    refine HRT.out.mono ?_
    rintro e wa ⟨B2, h⟩
    rcases h with ⟨rfl, i0, hi0, hnone⟩ | ⟨Bm, lm, rfl, hm, hr, hlen, hge⟩
    · exact absurd hnone (HZO.out.2.1 i0 hi0)
    · have HXa := Aside0.mk (HX.out.below B2)
      have HZa := Aside0.mk (HZ.out.below B2)
      have HBa := Aside0.mk (HB.out.trans (B2.mono HB.out.size))
      have HMa := Aside0.mk hm
      have HRL := Aside0.mk hr
      have HLN := Aside0.mk hlen
      have hba : Below wa.heap.size wa (wa.alloc (.cells #[.slice none 0 0, .int .i64 (-1), .slice none 0 0, .slice none 0 0, .slice none 0 0] 41)) := (Below.refl _ _).alloc (Nat.le_refl _) _
      have HXb := Aside0.mk (HXa.out.below hba)
      have HZb := Aside0.mk (HZa.out.below hba)
      have HMb := Aside0.mk (HMa.out.below hba)
      have HBb := Aside0.mk (HBa.out.trans (hba.mono HBa.out.size))
      have HSb := Aside0.mk (show St x AT cT AR cR AI cI ts.length rs.length is.length Bm lm wa.heap.size w (fun _ => .slice none 0 0) (-1) Z4 (wa.alloc (.cells #[.slice none 0 0, .int .i64 (-1), .slice none 0 0, .slice none 0 0, .slice none 0 0] 41)) from
        ⟨⟨heap_alloc_new wa _, fun i _ => Kd.R_nil _ _ _ _ _, fun i j _ _ _ g hg => by simp [Value.ownBlock] at hg⟩, ⟨HXb.out, HZb.out, HMb.out, HXa.out.lt, blk_lt HZa.out, map_lt HMa.out⟩, HBb.out⟩)
      have q12 := HXb.out.res
      clear B2 hm hr hlen hge HX HB HZ HRT hba HXa HZa HMa HBa HXb HZb HMb HBb
      go_wp2_with fail
      clear q12
      generalize wa.alloc (.cells #[.slice none 0 0, .int .i64 (-1), .slice none 0 0, .slice none 0 0, .slice none 0 0] 41) = wb at *
      generalize wa.heap.size = O at *
      go_loopw [36] (fun i wq => ∃ (k : Nat) (V : Nat → Value) (L : Nat → List Int), k ≤ rs.length ∧ i = .int .i64 k ∧ Aside0 (L 0 = ceilsF ts rs is k ∧ L 2 = [] ∧ L 3 = [] ∧ L 4 = []) ∧ Aside0 (St x AT cT AR cR AI cI ts.length rs.length is.length Bm lm O w V (-1) L wq)) (fun i _ => rs.length - (intOf i).toNat)
      case atStart => exact ⟨0, _, Z4, by omega, rfl, ⟨rfl, rfl, rfl, rfl⟩, HSb⟩
      case round =>
        clear HSb
        obtain ⟨k, V, L, hk, rfl, HL, HS0⟩ := hrel
        by_cases hlt : k < rs.length
        · have hd : decide ((k : Int) < (rs.length : Int)) = true := decide_eq_true (by omega)
          have HLT := Aside0.mk (Nat.succ_le_of_lt hlt)
          have hbx : Below wr.heap.size wr ((wr.alloc (.cells #[.int .i64 (-1)] 3)).alloc (.cells #[.bool false] 4)) := ((Below.refl _ _).alloc (Nat.le_refl _) _).alloc (by simp) _
          have HBX := Aside0.mk hbx
          have HEx := Aside0.mk (HS0.out.env.below hbx)
          have HIx := Aside0.mk (show inv32 wr.heap.size (fun g => g ≠ wr.heap.size ∧ g ≠ wr.heap.size + 1) [] ((wr.alloc (.cells #[.int .i64 (-1)] 3)).alloc (.cells #[.bool false] 4)) from ⟨⟨by
              rw [heap_alloc_old _ _ (by simp)]
              exact heap_alloc_new wr _, by
              have h1 := heap_alloc_new (wr.alloc (.cells #[.int .i64 (-1)] 3)) (.cells #[.bool false] 4)
              rw [World.size_alloc] at h1
              exact h1⟩, fun h => h.1 rfl, fun h => h.2 rfl⟩)
          have HUC := Aside0.mk (users32_calls x AT cT AR cR AI cI ts rs is Bm k lm ⟨wr.heap.size + 1, 0, none⟩ ⟨wr.heap.size, 0, none⟩ (inv32 wr.heap.size) (do32 wr.heap.size) (fun g => g ≠ wr.heap.size ∧ g ≠ wr.heap.size + 1) ((wr.alloc (.cells #[.int .i64 (-1)] 3)).alloc (.cells #[.bool false] 4)) wr (HC.out.below HS0.out.bel) hbx (fun g hg => ⟨by omega, by omega⟩) (by have := map_lt HS0.out.env.map; exact ⟨by omega, by omega⟩) HEx.out.map HRL.out HLN.out hlt HZO.out.1 ht hi HIx.out)
          clear hbx
          go_wp2_with (first | ((with_reducible refine gate_dst (N := 39) rfl ?_); refine load36 HEx.out.box rfl (.tmp 1) rfl rfl ?_))
          refine HUC.out.mono ?_
          rintro e w2 ⟨⟨vv, rfl⟩, hin, hks⟩
          have hb2 : Below wr.heap.size wr w2 := HBX.out.trans (hks.below (fun g hg => ⟨by omega, by omega⟩) HBX.out.size)
          have HS2 := Aside0.mk (HS0.out.below hb2)
          have y0 := hin.1.cell
          obtain ⟨o0, o1, o2, o3, o4, of⟩ := HS2.out.out.cells
          have HY := Aside0.mk y0
          clear hin hks hb2 HUC HIx HEx HBX HS0 y0 of
          have hcl : (topL (taskUsers rs ts k ts.length ++ isrUsers rs is k is.length)).1 = ceilF ts rs is k := rfl
          rw [hcl] at HY
          clear hcl
          have y0 := HY.out
          have HLE := Aside0.mk (show (L 0).length ≤ 4398046511104 by rw [HL.out.1, ceils_len]; omega)
          obtain ⟨cf, hcf⟩ : ∃ cf, ceilF ts rs is k = cf := ⟨_, rfl⟩
          rw [hcf] at y0
          have HCF := Aside0.mk hcf
          clear hcf HY
          go_wp2_with ((with_reducible refine gate_builtin (b := .append) (xs := #[.tmp 45, .tmp 47]) rfl ?_); at_builtin; refine Kd.R_append (Kd.int .i64) (w0 := w) w.heap.size rfl (.tmp 45) (.tmp 47) 39 3 (.int .i64 0) 8 rfl Try.underlying39 info3 rfl (by decide) (by omega) _ (L 0) cf [.int .i64 cf] (fun _ => True) (fun _ => False) rfl rfl rfl (fun _ h => h.elim) (fun _ _ => trivial) (HS2.out.out.row 0 (.inl rfl)) HS2.out.bel HS2.out.bel.size ?hl ?_; (case hl => have := HLE.out; omega); intro v3 w3 HR3 HB3 HG3 HA3; obtain ⟨A3, c3, e3⟩ := row_slice HR3; subst e3; obtain ⟨t0, t1, t2, t3, t4, tf⟩ := HS2.out.out.after 0 (.inl rfl) HG3; have tf0 := tf 0; have HS2n := Aside0.mk (HS2.out.app 0 (.inl rfl) _ cf HR3 HB3 HG3 HA3); clear HR3 HB3 HG3 HA3 tf y0 o0 o1 o2 o3 o4)
          have HLL := Aside0.mk (show (upd L 0 (L 0 ++ [cf])) 0 = ceilsF ts rs is (k + 1) ∧ (upd L 0 (L 0 ++ [cf])) 2 = [] ∧ (upd L 0 (L 0 ++ [cf])) 3 = [] ∧ (upd L 0 (L 0 ++ [cf])) 4 = [] from ⟨by rw [upd_same, ceils_snoc, HL.out.1, HCF.out], by rw [upd_other L _ (by decide)]; exact HL.out.2.1, by rw [upd_other L _ (by decide)]; exact HL.out.2.2.1, by rw [upd_other L _ (by decide)]; exact HL.out.2.2.2⟩)
          go_roundw
          case rel => exact ⟨k + 1, _, _, HLT.out, by go_num, HLL, HS2n⟩
          case measure => have := HLT.out; simp [intOf]; omega
        · have hd : decide ((k : Int) < (rs.length : Int)) = false := decide_eq_false (by omega)
          have HE := Aside0.mk (show k = rs.length by omega)
          have HL1 := Aside0.mk (show L 0 = ceilsF ts rs is rs.length ∧ L 2 = [] ∧ L 3 = [] ∧ L 4 = [] by rw [← HE.out]; exact HL.out)
          have q11 := HS0.out.env.box.tasks
          clear HL
          go_wp2_with fail
          clear q11 HE hd hk hlt
          go_loopw [54] (fun i wq => ∃ k : Nat, k ≤ ts.length ∧ i = .int .i64 k ∧ Aside0 (St x AT cT AR cR AI cI ts.length rs.length is.length Bm lm O w V (schF ts k) L wq)) (fun i _ => ts.length - (intOf i).toNat)
          case atStart => exact ⟨0, by omega, rfl, HS0⟩
          case round =>
            clear HS0
            obtain ⟨k, hk, rfl, HS0⟩ := hrel
            by_cases hlt : k < ts.length
            · have hd : decide ((k : Int) < (ts.length : Int)) = true := decide_eq_true (by omega)
              have HLT := Aside0.mk (Nat.succ_le_of_lt hlt)
              obtain ⟨ad, A4, c4, A5, c5, A6, c6, A7, c7, e, hta, l5, g5⟩ := task_cells (HC.out.below HS0.out.bel).t k hlt
              subst e
              have HTA := Aside0.mk hta
              have HSF := Aside0.mk (show schF ts (k + 1) = max (if k = 0 then (ts.getD k z64).f1 else schF ts k) (ts.getD k z64).f1 from rfl)
              clear g5 l5 hta
              generalize ts.getD k z64 = t at *
              generalize schF ts k = sk at *
              have hba : Below wr.heap.size wr (wr.alloc (.cells #[.string t.f0, .int .i64 t.f1, .bool t.f2, .int .i64 t.f3, .slice A4 t.f4.length c4, .slice A5 t.f5.length c5, .slice A6 t.f6.length c6, .slice A7 t.f7.length c7] 64)) := (Below.refl _ _).alloc (Nat.le_refl _) _
              have HSa := Aside0.mk (HS0.out.below hba)
              have hy1 : (wr.alloc (.cells #[.string t.f0, .int .i64 t.f1, .bool t.f2, .int .i64 t.f3, .slice A4 t.f4.length c4, .slice A5 t.f5.length c5, .slice A6 t.f6.length c6, .slice A7 t.f7.length c7] 64)).cell? ⟨wr.heap.size, 1, none⟩ = some (.int .i64 t.f1) := by rw [World.cell?_alloc_new]; rfl
              have HY1 := Aside0.mk hy1
              have hox : O < wr.heap.size := HS0.out.lt
              clear hba hy1
              have hy1 := HY1.out
              obtain ⟨o0, o1, o2, o3, o4, of⟩ := HSa.out.out.cells
              have of1 := of 1
              clear of o0 o2 o3 o4
              by_cases hk0 : k = 0
              · have hz : ((k : Int) == 0) = true := by simp [hk0]
                have HS1 := Aside0.mk (HS0.out.sch_set t.f1)
                have HS1a := Aside0.mk (HS1.out.below ((Below.refl _ _).alloc (Nat.le_refl _) (.cells #[.string t.f0, .int .i64 t.f1, .bool t.f2, .int .i64 t.f3, .slice A4 t.f4.length c4, .slice A5 t.f5.length c5, .slice A6 t.f6.length c6, .slice A7 t.f7.length c7] 64)))
                obtain ⟨_, p1, _, _, _, pf⟩ := HS1a.out.out.cells
                have pf1 := pf 1
                clear pf
                have HF := Aside0.mk (show schF ts (k + 1) = t.f1 by rw [HSF.out, if_pos hk0]; omega)
                clear hk0
                go_wp2_with (first | ((with_reducible refine gate_dst (N := 58) rfl ?_); refine load64 HTA.out rfl (.tmp 57) rfl rfl ?_))
                all_goals try omega
                all_goals
                  go_roundw
                  case rel => exact ⟨k + 1, HLT.out, by go_num, ⟨by rw [HF.out]; exact (HS1.out.sch_set t.f1).below ((Below.refl _ _).alloc (Nat.le_refl _) _)⟩⟩
                  case measure => have := HLT.out; simp [intOf]; omega
              · have hz : ((k : Int) == 0) = false := by simp [hk0]
                by_cases hle : t.f1 ≤ sk
                · have HF := Aside0.mk (show schF ts (k + 1) = sk by rw [HSF.out, if_neg hk0]; omega)
                  clear hk0
                  go_wp2_with (first | ((with_reducible refine gate_dst (N := 58) rfl ?_); refine load64 HTA.out rfl (.tmp 57) rfl rfl ?_))
                  all_goals try omega
                  all_goals
                    go_roundw
                    case rel => exact ⟨k + 1, HLT.out, by go_num, ⟨by rw [HF.out]; exact (HS0.out.sch_set sk).below ((Below.refl _ _).alloc (Nat.le_refl _) _)⟩⟩
                    case measure => have := HLT.out; simp [intOf]; omega
                · have HF := Aside0.mk (show schF ts (k + 1) = t.f1 by rw [HSF.out, if_neg hk0]; omega)
                  clear hk0
                  go_wp2_with (first | ((with_reducible refine gate_dst (N := 58) rfl ?_); refine load64 HTA.out rfl (.tmp 57) rfl rfl ?_))
                  all_goals try omega
                  all_goals
                    go_roundw
                    case rel => exact ⟨k + 1, HLT.out, by go_num, ⟨by rw [HF.out]; exact (HS0.out.sch_set t.f1).below ((Below.refl _ _).alloc (Nat.le_refl _) _)⟩⟩
                    case measure => have := HLT.out; simp [intOf]; omega
            · have hd : decide ((k : Int) < (ts.length : Int)) = false := decide_eq_false (by omega)
              have HE := Aside0.mk (show k = ts.length by omega)
              have HS1 := Aside0.mk (show St x AT cT AR cR AI cI ts.length rs.length is.length Bm lm O w V (schF ts ts.length) L wr by have h := HS0.out; rw [HE.out] at h; exact h)
              have q11 := HS0.out.env.box.tasks
              clear HS0
              go_wp2_with fail
              clear q11 HE hd hk hlt
              obtain ⟨sk, hsk⟩ : ∃ sk, schF ts ts.length = sk := ⟨_, rfl⟩
              rw [hsk] at HS1
              have HSK := Aside0.mk hsk
              clear hsk
              go_loopw [74] (fun i wq => ∃ (k : Nat) (V : Nat → Value) (L : Nat → List Int), k ≤ ts.length ∧ i = .int .i64 k ∧ Aside0 (L 0 = ceilsF ts rs is rs.length ∧ L 2 = runsF ts rs is k ∧ L 3 = cntsF ts rs x.b9 k ∧ L 4 = []) ∧ Aside0 (St x AT cT AR cR AI cI ts.length rs.length is.length Bm lm O w V sk L wq)) (fun i _ => ts.length - (intOf i).toNat)
              case atStart => exact ⟨0, V, L, by omega, rfl, ⟨HL1.out.1, HL1.out.2.1, HL1.out.2.2.1, HL1.out.2.2.2⟩, HS1⟩
              case round =>
                clear HS1 HL1
                obtain ⟨k, V, L, hk, rfl, HL, HS0⟩ := hrel
                by_cases hlt : k < ts.length
                · have hd : decide ((k : Int) < (ts.length : Int)) = true := decide_eq_true (by omega)
                  have HLT := Aside0.mk (Nat.succ_le_of_lt hlt)
                  obtain ⟨ad, A4, c4, A5, c5, A6, c6, A7, c7, e, hta, l5, g5⟩ := task_cells (HC.out.below HS0.out.bel).t k hlt
                  subst e
                  have HTA := Aside0.mk hta
                  have HRG := Aside0.mk (rises_range rs.length _ (-1) (HZO.out.1.t k hlt))
                  have hln := rises_le rs.length _ (HZO.out.1.t k hlt)
                  have HG5 := Aside0.mk g5
                  obtain ⟨t, ht0⟩ : ∃ t, ts.getD k z64 = t := ⟨_, rfl⟩
                  rw [ht0] at HTA HRG HG5 l5 hln
                  have HT := Aside0.mk ht0
                  clear g5 hta ht0
                  have hba : Below wr.heap.size wr (wr.alloc (.cells #[.string t.f0, .int .i64 t.f1, .bool t.f2, .int .i64 t.f3, .slice A4 t.f4.length c4, .slice A5 t.f5.length c5, .slice A6 t.f6.length c6, .slice A7 t.f7.length c7] 64)) := (Below.refl _ _).alloc (Nat.le_refl _) _
                  have HSa := Aside0.mk (HS0.out.below hba)
                  have HGa := Aside0.mk (Kd.C_below HG5.out hba)
                  have hy1 : (wr.alloc (.cells #[.string t.f0, .int .i64 t.f1, .bool t.f2, .int .i64 t.f3, .slice A4 t.f4.length c4, .slice A5 t.f5.length c5, .slice A6 t.f6.length c6, .slice A7 t.f7.length c7] 64)).cell? ⟨wr.heap.size, 1, none⟩ = some (.int .i64 t.f1) := by rw [World.cell?_alloc_new]; rfl
                  have hy2 : (wr.alloc (.cells #[.string t.f0, .int .i64 t.f1, .bool t.f2, .int .i64 t.f3, .slice A4 t.f4.length c4, .slice A5 t.f5.length c5, .slice A6 t.f6.length c6, .slice A7 t.f7.length c7] 64)).cell? ⟨wr.heap.size, 2, none⟩ = some (.bool t.f2) := by rw [World.cell?_alloc_new]; rfl
                  have hy5 : (wr.alloc (.cells #[.string t.f0, .int .i64 t.f1, .bool t.f2, .int .i64 t.f3, .slice A4 t.f4.length c4, .slice A5 t.f5.length c5, .slice A6 t.f6.length c6, .slice A7 t.f7.length c7] 64)).cell? ⟨wr.heap.size, 5, none⟩ = some (.slice A5 t.f5.length c5) := by rw [World.cell?_alloc_new]; rfl
                  have HY2 := Aside0.mk hy2
                  have hlen := HGa.out.2.1
                  clear hba hy2 HS0 HG5
                  go_wp2_with (first | ((with_reducible refine gate_dst (N := 77) rfl ?_); refine load64 HTA.out rfl (.tmp 76) rfl rfl ?_))
                  clear HTA hy1 hy5
                  generalize wr.alloc (.cells #[.string t.f0, .int .i64 t.f1, .bool t.f2, .int .i64 t.f3, .slice A4 t.f4.length c4, .slice A5 t.f5.length c5, .slice A6 t.f6.length c6, .slice A7 t.f7.length c7] 64) = wa at *
                  generalize wr.heap.size = X at *
                  obtain ⟨A0, c0, ev0, _, hC0⟩ := Kd.R_reads (HSa.out.out.row 0 (.inl rfl))
                  rw [HL.out.1, ceils_len] at ev0 hC0
                  have HV0 := Aside0.mk ev0
                  have HC0 := Aside0.mk hC0
                  clear ev0 hC0
                  go_loop [15, 16, 83] (fun p n i => ∃ j : Nat, j ≤ t.f5.length ∧ i = .int .i64 j ∧ p = .int .i64 (runP ts rs is (t.f5.take j) t.f1) ∧ n = .int .i64 (runN rs (t.f5.take j))) (fun _ _ i => t.f5.length - (intOf i).toNat)
                  case atStart => exact ⟨0, by omega, rfl, rfl, rfl⟩
                  case round =>
                    obtain ⟨j, hj, rfl, rfl, rfl⟩ := hrel
                    by_cases hjl : j < t.f5.length
                    · have hjd : decide ((j : Int) < (t.f5.length : Int)) = true := decide_eq_true (by omega)
                      have HJL := Aside0.mk (Nat.succ_le_of_lt hjl)
                      obtain ⟨ad5, e5, hc0⟩ := (Kd.reads_of_C (d := (0 : Int)) HGa.out).2.2 (by omega)
                      subst e5
                      have hx := hc0 j hjl
                      have hsp := runP_step ts rs is t.f5 t.f1 j hjl
                      have hsn := runN_step rs t.f5 j hjl
                      have hle := runN_le rs t.f5 j hj
                      have hmem : t.f5.getD j 0 ∈ t.f5 := by rw [List.getD_eq_getElem?_getD, List.getElem?_eq_getElem hjl]; exact List.getElem_mem hjl
                      obtain ⟨h0, h1⟩ := HRG.out _ hmem
                      obtain ⟨r, hr0⟩ := Int.eq_ofNat_of_zero_le (by omega : 0 ≤ t.f5.getD j 0)
                      rw [hr0] at hx hsp hsn h1
                      rw [show ((r : Int)).toNat = r from Int.toNat_natCast r] at hsp hsn
                      have hrr : r < rs.length := by omega
                      have HSP := Aside0.mk hsp
                      have HSN := Aside0.mk hsn
                      obtain ⟨adr, er, k1, k2⟩ := res_at (HC.out.below HSa.out.bel).r r hrr
                      subst er
                      obtain ⟨ad0, e0, hz0⟩ := (Kd.reads_of_C (d := (0 : Int)) HC0.out).2.2 (by omega)
                      subst e0
                      have hzr := hz0 r (by simpa [ceils_len] using hrr)
                      rw [ceils_get ts rs is _ r hrr] at hzr
                      obtain ⟨cf, hcf⟩ : ∃ cf, ceilF ts rs is r = cf := ⟨_, rfl⟩
                      rw [hcf] at hzr
                      have HCF := Aside0.mk hcf
                      have q12 := HSa.out.env.box.res
                      obtain ⟨o0, _, _, _, _, _⟩ := HSa.out.out.cells
                      rw [HV0.out] at o0
                      clear hc0 hmem h0 h1 hr0 hsp hsn hcf hz0 k2
                      generalize runP ts rs is (t.f5.take j) t.f1 = p at *
                      generalize runN rs (t.f5.take j) = n at *
                      by_cases ck : kindOf rs r = 3
                      · have cb : (kindOf rs r == 3) = true := by simp [ck]
                        by_cases hpc : p < cf
                        · have HP2 := Aside0.mk (show runP ts rs is (t.f5.take (j + 1)) t.f1 = cf by rw [HSP.out, if_pos ck, HCF.out]; omega)
                          have HN2 := Aside0.mk (show runN rs (t.f5.take (j + 1)) = n by rw [HSN.out, if_pos ck])
                          clear ck
                          go_wp2_with fail
                          all_goals try omega
                          all_goals
                            go_round
                            case rel => exact ⟨j + 1, HJL.out, by go_num, by rw [HP2.out], by rw [HN2.out]⟩
                            case measure => have := HJL.out; simp [intOf]; omega
                        · skip
                          have HP2 := Aside0.mk (show runP ts rs is (t.f5.take (j + 1)) t.f1 = p by rw [HSP.out, if_pos ck, HCF.out]; omega)
                          have HN2 := Aside0.mk (show runN rs (t.f5.take (j + 1)) = n by rw [HSN.out, if_pos ck])
                          clear ck
                          go_wp2_with fail
                          all_goals try omega
                          all_goals
                            go_round
                            case rel => exact ⟨j + 1, HJL.out, by go_num, by rw [HP2.out], by rw [HN2.out]⟩
                            case measure => have := HJL.out; simp [intOf]; omega
                      · have cb : (kindOf rs r == 3) = false := by simp [ck]
                        have HP2 := Aside0.mk (show runP ts rs is (t.f5.take (j + 1)) t.f1 = p by rw [HSP.out, if_neg ck])
                        have HN2 := Aside0.mk (show runN rs (t.f5.take (j + 1)) = n + 1 by rw [HSN.out, if_neg ck])
                        clear ck
                        go_wp2_with fail
                        go_round
                        case rel => exact ⟨j + 1, HJL.out, by go_num, by rw [HP2.out], by rw [HN2.out]⟩
                        case measure => have := HJL.out; simp [intOf]; omega
                    · have hjd : decide ((j : Int) < (t.f5.length : Int)) = false := decide_eq_false (by omega)
                      have HJ := Aside0.mk (show t.f5.take j = t.f5 from List.take_of_length_le (by omega))
                      obtain ⟨hle0, hle1⟩ := runN_le rs t.f5 j hj
                      rw [HJ.out] at hle0 hle1
                      rw [HJ.out]
                      obtain ⟨p, hp0⟩ : ∃ p, runP ts rs is t.f5 t.f1 = p := ⟨_, rfl⟩
                      obtain ⟨n, hn0⟩ : ∃ n, runN rs t.f5 = n := ⟨_, rfl⟩
                      rw [hp0, hn0]
                      rw [hn0] at hle0 hle1
                      have HP := Aside0.mk hp0
                      have HN := Aside0.mk hn0
                      clear hp0 hn0
                      have hy2 := HY2.out
                      have s9 := HSa.out.env.box.sched
                      obtain ⟨_, o1, o2, _, _, _⟩ := HSa.out.out.cells
                      have HL2 := Aside0.mk (show (L 2).length ≤ 4398046511104 by rw [HL.out.2.1, runs_len]; omega)
                      have HL3 := Aside0.mk (show (L 3).length ≤ 4398046511104 by rw [HL.out.2.2.1, cnts_len]; omega)
                      rcases Bool.eq_false_or_eq_true t.f2 with hf2 | hf2
                      · rw [hf2] at hy2
                        have HF2 := Aside0.mk hf2
                        clear hf2
                        rcases Bool.eq_false_or_eq_true x.b9 with hb9 | hb9
                        · rw [hb9] at s9
                          have HB9 := Aside0.mk hb9
                          clear hb9
                          have HPV := Aside0.mk (show runF ts rs is t = p by unfold runF; rw [if_pos HF2.out, HP.out])
                          have HNV := Aside0.mk (show cntT rs x.b9 t = n + 1 by unfold cntT; rw [HB9.out, HN.out]; rfl)
                          go_wp2_with (first | ((with_reducible refine gate_builtin (b := .append) (xs := #[.tmp 117, .tmp 119]) rfl ?_); at_builtin; refine Kd.R_append (Kd.int .i64) (w0 := w) w.heap.size rfl (.tmp 117) (.tmp 119) 39 3 (.int .i64 0) 8 rfl Try.underlying39 info3 rfl (by decide) (by omega) _ (L 2) p [.int .i64 p] (fun _ => True) (fun _ => False) rfl rfl rfl (fun _ h => h.elim) (fun _ _ => trivial) (HSa.out.out.row 2 (.inr (.inl rfl))) HSa.out.bel HSa.out.bel.size ?hl ?_; (case hl => have := HL2.out; omega); intro v3 w3 HR HB HG HA; obtain ⟨A3, c3, e3⟩ := row_slice HR; subst e3; have th := (HSa.out.out.after 2 (.inr (.inl rfl)) HG); have tf2 := th.2.2.2.2.2 2; have tc2 := th.2.2.1; clear th; have HSc := Aside0.mk (HSa.out.app 2 (.inr (.inl rfl)) _ p HR HB HG HA); clear HR HB HG HA o2; have u3 := HSc.out.out.cells.2.2.2.1; have u3 : (w3.setCell ⟨O, 2, none⟩ (.slice A3 ((L 2).length + 1) c3)).cell? ⟨O, 3, none⟩ = some (V 3) := u3) | ((with_reducible refine gate_builtin (b := .append) (xs := #[.tmp 123, .tmp 125]) rfl ?_); at_builtin; (refine Kd.R_append (Kd.int .i64) (w0 := w) w.heap.size rfl (.tmp 123) (.tmp 125) 39 3 (.int .i64 0) 8 rfl Try.underlying39 info3 rfl (by decide) (by omega) (V 3) (L 3) (n + 1) [.int .i64 (n + 1)] (fun _ => True) (fun _ => False) rfl (by rw [World.size_setCell]; rfl) rfl (fun _ h => h.elim) (fun _ _ => trivial) (show (Kd.int .i64).R 3 _ w.heap.size (fun _ => True) (V 3) (L 3) from HSc.out.out.row 3 (.inr (.inr (.inl rfl)))) HSc.out.bel HSc.out.bel.size ?hl ?_; (case hl => have := HL3.out; omega); intro v4 w4 HR HB HG HA; obtain ⟨A4, c4, e4⟩ := row_slice HR; subst e4; have th := (HSc.out.out.after 3 (.inr (.inr (.inl rfl))) (show World.grownBy _ _ (V 3).ownBlock from HG)); have tf3 := th.2.2.2.2.2 3; have tc3 := th.2.2.2.1; clear th; have HSd := Aside0.mk (HSc.out.app 3 (.inr (.inr (.inl rfl))) _ (n + 1) HR HB HG HA); clear HR HB HG HA u3)))
                          all_goals try omega
                          go_roundw
                          case rel => exact ⟨k + 1, _, _, HLT.out, by go_num, ⟨show upd (upd L 2 (L 2 ++ [p])) 3 _ 0 = _ from HL.out.1, by show L 2 ++ [p] = _; rw [runs_snoc, HL.out.2.1, HT.out, HPV.out], by show L 3 ++ [n + 1] = _; rw [cnts_snoc, HL.out.2.2.1, HT.out, HNV.out], HL.out.2.2.2⟩, HSd⟩
                          case measure => have := HLT.out; simp [intOf]; omega
                        · rw [hb9] at s9
                          have HB9 := Aside0.mk hb9
                          clear hb9
                          have HPV := Aside0.mk (show runF ts rs is t = p by unfold runF; rw [if_pos HF2.out, HP.out])
                          have HNV := Aside0.mk (show cntT rs x.b9 t = n by unfold cntT; rw [HB9.out, HN.out]; rfl)
                          go_wp2_with (first | ((with_reducible refine gate_builtin (b := .append) (xs := #[.tmp 117, .tmp 119]) rfl ?_); at_builtin; refine Kd.R_append (Kd.int .i64) (w0 := w) w.heap.size rfl (.tmp 117) (.tmp 119) 39 3 (.int .i64 0) 8 rfl Try.underlying39 info3 rfl (by decide) (by omega) _ (L 2) p [.int .i64 p] (fun _ => True) (fun _ => False) rfl rfl rfl (fun _ h => h.elim) (fun _ _ => trivial) (HSa.out.out.row 2 (.inr (.inl rfl))) HSa.out.bel HSa.out.bel.size ?hl ?_; (case hl => have := HL2.out; omega); intro v3 w3 HR HB HG HA; obtain ⟨A3, c3, e3⟩ := row_slice HR; subst e3; have th := (HSa.out.out.after 2 (.inr (.inl rfl)) HG); have tf2 := th.2.2.2.2.2 2; have tc2 := th.2.2.1; clear th; have HSc := Aside0.mk (HSa.out.app 2 (.inr (.inl rfl)) _ p HR HB HG HA); clear HR HB HG HA o2; have u3 := HSc.out.out.cells.2.2.2.1; have u3 : (w3.setCell ⟨O, 2, none⟩ (.slice A3 ((L 2).length + 1) c3)).cell? ⟨O, 3, none⟩ = some (V 3) := u3) | ((with_reducible refine gate_builtin (b := .append) (xs := #[.tmp 123, .tmp 125]) rfl ?_); at_builtin; (refine Kd.R_append (Kd.int .i64) (w0 := w) w.heap.size rfl (.tmp 123) (.tmp 125) 39 3 (.int .i64 0) 8 rfl Try.underlying39 info3 rfl (by decide) (by omega) (V 3) (L 3) n [.int .i64 n] (fun _ => True) (fun _ => False) rfl (by rw [World.size_setCell]; rfl) rfl (fun _ h => h.elim) (fun _ _ => trivial) (show (Kd.int .i64).R 3 _ w.heap.size (fun _ => True) (V 3) (L 3) from HSc.out.out.row 3 (.inr (.inr (.inl rfl)))) HSc.out.bel HSc.out.bel.size ?hl ?_; (case hl => have := HL3.out; omega); intro v4 w4 HR HB HG HA; obtain ⟨A4, c4, e4⟩ := row_slice HR; subst e4; have th := (HSc.out.out.after 3 (.inr (.inr (.inl rfl))) (show World.grownBy _ _ (V 3).ownBlock from HG)); have tf3 := th.2.2.2.2.2 3; have tc3 := th.2.2.2.1; clear th; have HSd := Aside0.mk (HSc.out.app 3 (.inr (.inr (.inl rfl))) _ n HR HB HG HA); clear HR HB HG HA u3)))
                          all_goals try omega
                          go_roundw
                          case rel => exact ⟨k + 1, _, _, HLT.out, by go_num, ⟨show upd (upd L 2 (L 2 ++ [p])) 3 _ 0 = _ from HL.out.1, by show L 2 ++ [p] = _; rw [runs_snoc, HL.out.2.1, HT.out, HPV.out], by show L 3 ++ [n] = _; rw [cnts_snoc, HL.out.2.2.1, HT.out, HNV.out], HL.out.2.2.2⟩, HSd⟩
                          case measure => have := HLT.out; simp [intOf]; omega
                      · rw [hf2] at hy2
                        have HF2 := Aside0.mk hf2
                        clear hf2
                        by_cases hle : p < sk
                        · rcases Bool.eq_false_or_eq_true x.b9 with hb9 | hb9
                          · rw [hb9] at s9
                            have HB9 := Aside0.mk hb9
                            clear hb9
                            have HPV := Aside0.mk (show runF ts rs is t = sk by unfold runF; rw [if_neg (by rw [HF2.out]; decide), HP.out, HSK.out]; omega)
                            have HNV := Aside0.mk (show cntT rs x.b9 t = n + 1 by unfold cntT; rw [HB9.out, HN.out]; rfl)
                            go_wp2_with (first | ((with_reducible refine gate_builtin (b := .append) (xs := #[.tmp 117, .tmp 119]) rfl ?_); at_builtin; refine Kd.R_append (Kd.int .i64) (w0 := w) w.heap.size rfl (.tmp 117) (.tmp 119) 39 3 (.int .i64 0) 8 rfl Try.underlying39 info3 rfl (by decide) (by omega) _ (L 2) sk [.int .i64 sk] (fun _ => True) (fun _ => False) rfl rfl rfl (fun _ h => h.elim) (fun _ _ => trivial) (HSa.out.out.row 2 (.inr (.inl rfl))) HSa.out.bel HSa.out.bel.size ?hl ?_; (case hl => have := HL2.out; omega); intro v3 w3 HR HB HG HA; obtain ⟨A3, c3, e3⟩ := row_slice HR; subst e3; have th := (HSa.out.out.after 2 (.inr (.inl rfl)) HG); have tf2 := th.2.2.2.2.2 2; have tc2 := th.2.2.1; clear th; have HSc := Aside0.mk (HSa.out.app 2 (.inr (.inl rfl)) _ sk HR HB HG HA); clear HR HB HG HA o2; have u3 := HSc.out.out.cells.2.2.2.1; have u3 : (w3.setCell ⟨O, 2, none⟩ (.slice A3 ((L 2).length + 1) c3)).cell? ⟨O, 3, none⟩ = some (V 3) := u3) | ((with_reducible refine gate_builtin (b := .append) (xs := #[.tmp 123, .tmp 125]) rfl ?_); at_builtin; (refine Kd.R_append (Kd.int .i64) (w0 := w) w.heap.size rfl (.tmp 123) (.tmp 125) 39 3 (.int .i64 0) 8 rfl Try.underlying39 info3 rfl (by decide) (by omega) (V 3) (L 3) (n + 1) [.int .i64 (n + 1)] (fun _ => True) (fun _ => False) rfl (by rw [World.size_setCell]; rfl) rfl (fun _ h => h.elim) (fun _ _ => trivial) (show (Kd.int .i64).R 3 _ w.heap.size (fun _ => True) (V 3) (L 3) from HSc.out.out.row 3 (.inr (.inr (.inl rfl)))) HSc.out.bel HSc.out.bel.size ?hl ?_; (case hl => have := HL3.out; omega); intro v4 w4 HR HB HG HA; obtain ⟨A4, c4, e4⟩ := row_slice HR; subst e4; have th := (HSc.out.out.after 3 (.inr (.inr (.inl rfl))) (show World.grownBy _ _ (V 3).ownBlock from HG)); have tf3 := th.2.2.2.2.2 3; have tc3 := th.2.2.2.1; clear th; have HSd := Aside0.mk (HSc.out.app 3 (.inr (.inr (.inl rfl))) _ (n + 1) HR HB HG HA); clear HR HB HG HA u3)))
                            all_goals try omega
                            go_roundw
                            case rel => exact ⟨k + 1, _, _, HLT.out, by go_num, ⟨show upd (upd L 2 (L 2 ++ [sk])) 3 _ 0 = _ from HL.out.1, by show L 2 ++ [sk] = _; rw [runs_snoc, HL.out.2.1, HT.out, HPV.out], by show L 3 ++ [n + 1] = _; rw [cnts_snoc, HL.out.2.2.1, HT.out, HNV.out], HL.out.2.2.2⟩, HSd⟩
                            case measure => have := HLT.out; simp [intOf]; omega
                          · rw [hb9] at s9
                            have HB9 := Aside0.mk hb9
                            clear hb9
                            have HPV := Aside0.mk (show runF ts rs is t = sk by unfold runF; rw [if_neg (by rw [HF2.out]; decide), HP.out, HSK.out]; omega)
                            have HNV := Aside0.mk (show cntT rs x.b9 t = n by unfold cntT; rw [HB9.out, HN.out]; rfl)
                            go_wp2_with (first | ((with_reducible refine gate_builtin (b := .append) (xs := #[.tmp 117, .tmp 119]) rfl ?_); at_builtin; refine Kd.R_append (Kd.int .i64) (w0 := w) w.heap.size rfl (.tmp 117) (.tmp 119) 39 3 (.int .i64 0) 8 rfl Try.underlying39 info3 rfl (by decide) (by omega) _ (L 2) sk [.int .i64 sk] (fun _ => True) (fun _ => False) rfl rfl rfl (fun _ h => h.elim) (fun _ _ => trivial) (HSa.out.out.row 2 (.inr (.inl rfl))) HSa.out.bel HSa.out.bel.size ?hl ?_; (case hl => have := HL2.out; omega); intro v3 w3 HR HB HG HA; obtain ⟨A3, c3, e3⟩ := row_slice HR; subst e3; have th := (HSa.out.out.after 2 (.inr (.inl rfl)) HG); have tf2 := th.2.2.2.2.2 2; have tc2 := th.2.2.1; clear th; have HSc := Aside0.mk (HSa.out.app 2 (.inr (.inl rfl)) _ sk HR HB HG HA); clear HR HB HG HA o2; have u3 := HSc.out.out.cells.2.2.2.1; have u3 : (w3.setCell ⟨O, 2, none⟩ (.slice A3 ((L 2).length + 1) c3)).cell? ⟨O, 3, none⟩ = some (V 3) := u3) | ((with_reducible refine gate_builtin (b := .append) (xs := #[.tmp 123, .tmp 125]) rfl ?_); at_builtin; (refine Kd.R_append (Kd.int .i64) (w0 := w) w.heap.size rfl (.tmp 123) (.tmp 125) 39 3 (.int .i64 0) 8 rfl Try.underlying39 info3 rfl (by decide) (by omega) (V 3) (L 3) n [.int .i64 n] (fun _ => True) (fun _ => False) rfl (by rw [World.size_setCell]; rfl) rfl (fun _ h => h.elim) (fun _ _ => trivial) (show (Kd.int .i64).R 3 _ w.heap.size (fun _ => True) (V 3) (L 3) from HSc.out.out.row 3 (.inr (.inr (.inl rfl)))) HSc.out.bel HSc.out.bel.size ?hl ?_; (case hl => have := HL3.out; omega); intro v4 w4 HR HB HG HA; obtain ⟨A4, c4, e4⟩ := row_slice HR; subst e4; have th := (HSc.out.out.after 3 (.inr (.inr (.inl rfl))) (show World.grownBy _ _ (V 3).ownBlock from HG)); have tf3 := th.2.2.2.2.2 3; have tc3 := th.2.2.2.1; clear th; have HSd := Aside0.mk (HSc.out.app 3 (.inr (.inr (.inl rfl))) _ n HR HB HG HA); clear HR HB HG HA u3)))
                            all_goals try omega
                            go_roundw
                            case rel => exact ⟨k + 1, _, _, HLT.out, by go_num, ⟨show upd (upd L 2 (L 2 ++ [sk])) 3 _ 0 = _ from HL.out.1, by show L 2 ++ [sk] = _; rw [runs_snoc, HL.out.2.1, HT.out, HPV.out], by show L 3 ++ [n] = _; rw [cnts_snoc, HL.out.2.2.1, HT.out, HNV.out], HL.out.2.2.2⟩, HSd⟩
                            case measure => have := HLT.out; simp [intOf]; omega
                        · rcases Bool.eq_false_or_eq_true x.b9 with hb9 | hb9
                          · rw [hb9] at s9
                            have HB9 := Aside0.mk hb9
                            clear hb9
                            have HPV := Aside0.mk (show runF ts rs is t = p by unfold runF; rw [if_neg (by rw [HF2.out]; decide), HP.out, HSK.out]; omega)
                            have HNV := Aside0.mk (show cntT rs x.b9 t = n + 1 by unfold cntT; rw [HB9.out, HN.out]; rfl)
                            go_wp2_with (first | ((with_reducible refine gate_builtin (b := .append) (xs := #[.tmp 117, .tmp 119]) rfl ?_); at_builtin; refine Kd.R_append (Kd.int .i64) (w0 := w) w.heap.size rfl (.tmp 117) (.tmp 119) 39 3 (.int .i64 0) 8 rfl Try.underlying39 info3 rfl (by decide) (by omega) _ (L 2) p [.int .i64 p] (fun _ => True) (fun _ => False) rfl rfl rfl (fun _ h => h.elim) (fun _ _ => trivial) (HSa.out.out.row 2 (.inr (.inl rfl))) HSa.out.bel HSa.out.bel.size ?hl ?_; (case hl => have := HL2.out; omega); intro v3 w3 HR HB HG HA; obtain ⟨A3, c3, e3⟩ := row_slice HR; subst e3; have th := (HSa.out.out.after 2 (.inr (.inl rfl)) HG); have tf2 := th.2.2.2.2.2 2; have tc2 := th.2.2.1; clear th; have HSc := Aside0.mk (HSa.out.app 2 (.inr (.inl rfl)) _ p HR HB HG HA); clear HR HB HG HA o2; have u3 := HSc.out.out.cells.2.2.2.1; have u3 : (w3.setCell ⟨O, 2, none⟩ (.slice A3 ((L 2).length + 1) c3)).cell? ⟨O, 3, none⟩ = some (V 3) := u3) | ((with_reducible refine gate_builtin (b := .append) (xs := #[.tmp 123, .tmp 125]) rfl ?_); at_builtin; (refine Kd.R_append (Kd.int .i64) (w0 := w) w.heap.size rfl (.tmp 123) (.tmp 125) 39 3 (.int .i64 0) 8 rfl Try.underlying39 info3 rfl (by decide) (by omega) (V 3) (L 3) (n + 1) [.int .i64 (n + 1)] (fun _ => True) (fun _ => False) rfl (by rw [World.size_setCell]; rfl) rfl (fun _ h => h.elim) (fun _ _ => trivial) (show (Kd.int .i64).R 3 _ w.heap.size (fun _ => True) (V 3) (L 3) from HSc.out.out.row 3 (.inr (.inr (.inl rfl)))) HSc.out.bel HSc.out.bel.size ?hl ?_; (case hl => have := HL3.out; omega); intro v4 w4 HR HB HG HA; obtain ⟨A4, c4, e4⟩ := row_slice HR; subst e4; have th := (HSc.out.out.after 3 (.inr (.inr (.inl rfl))) (show World.grownBy _ _ (V 3).ownBlock from HG)); have tf3 := th.2.2.2.2.2 3; have tc3 := th.2.2.2.1; clear th; have HSd := Aside0.mk (HSc.out.app 3 (.inr (.inr (.inl rfl))) _ (n + 1) HR HB HG HA); clear HR HB HG HA u3)))
                            all_goals try omega
                            go_roundw
                            case rel => exact ⟨k + 1, _, _, HLT.out, by go_num, ⟨show upd (upd L 2 (L 2 ++ [p])) 3 _ 0 = _ from HL.out.1, by show L 2 ++ [p] = _; rw [runs_snoc, HL.out.2.1, HT.out, HPV.out], by show L 3 ++ [n + 1] = _; rw [cnts_snoc, HL.out.2.2.1, HT.out, HNV.out], HL.out.2.2.2⟩, HSd⟩
                            case measure => have := HLT.out; simp [intOf]; omega
                          · rw [hb9] at s9
                            have HB9 := Aside0.mk hb9
                            clear hb9
                            have HPV := Aside0.mk (show runF ts rs is t = p by unfold runF; rw [if_neg (by rw [HF2.out]; decide), HP.out, HSK.out]; omega)
                            have HNV := Aside0.mk (show cntT rs x.b9 t = n by unfold cntT; rw [HB9.out, HN.out]; rfl)
                            go_wp2_with (first | ((with_reducible refine gate_builtin (b := .append) (xs := #[.tmp 117, .tmp 119]) rfl ?_); at_builtin; refine Kd.R_append (Kd.int .i64) (w0 := w) w.heap.size rfl (.tmp 117) (.tmp 119) 39 3 (.int .i64 0) 8 rfl Try.underlying39 info3 rfl (by decide) (by omega) _ (L 2) p [.int .i64 p] (fun _ => True) (fun _ => False) rfl rfl rfl (fun _ h => h.elim) (fun _ _ => trivial) (HSa.out.out.row 2 (.inr (.inl rfl))) HSa.out.bel HSa.out.bel.size ?hl ?_; (case hl => have := HL2.out; omega); intro v3 w3 HR HB HG HA; obtain ⟨A3, c3, e3⟩ := row_slice HR; subst e3; have th := (HSa.out.out.after 2 (.inr (.inl rfl)) HG); have tf2 := th.2.2.2.2.2 2; have tc2 := th.2.2.1; clear th; have HSc := Aside0.mk (HSa.out.app 2 (.inr (.inl rfl)) _ p HR HB HG HA); clear HR HB HG HA o2; have u3 := HSc.out.out.cells.2.2.2.1; have u3 : (w3.setCell ⟨O, 2, none⟩ (.slice A3 ((L 2).length + 1) c3)).cell? ⟨O, 3, none⟩ = some (V 3) := u3) | ((with_reducible refine gate_builtin (b := .append) (xs := #[.tmp 123, .tmp 125]) rfl ?_); at_builtin; (refine Kd.R_append (Kd.int .i64) (w0 := w) w.heap.size rfl (.tmp 123) (.tmp 125) 39 3 (.int .i64 0) 8 rfl Try.underlying39 info3 rfl (by decide) (by omega) (V 3) (L 3) n [.int .i64 n] (fun _ => True) (fun _ => False) rfl (by rw [World.size_setCell]; rfl) rfl (fun _ h => h.elim) (fun _ _ => trivial) (show (Kd.int .i64).R 3 _ w.heap.size (fun _ => True) (V 3) (L 3) from HSc.out.out.row 3 (.inr (.inr (.inl rfl)))) HSc.out.bel HSc.out.bel.size ?hl ?_; (case hl => have := HL3.out; omega); intro v4 w4 HR HB HG HA; obtain ⟨A4, c4, e4⟩ := row_slice HR; subst e4; have th := (HSc.out.out.after 3 (.inr (.inr (.inl rfl))) (show World.grownBy _ _ (V 3).ownBlock from HG)); have tf3 := th.2.2.2.2.2 3; have tc3 := th.2.2.2.1; clear th; have HSd := Aside0.mk (HSc.out.app 3 (.inr (.inr (.inl rfl))) _ n HR HB HG HA); clear HR HB HG HA u3)))
                            all_goals try omega
                            go_roundw
                            case rel => exact ⟨k + 1, _, _, HLT.out, by go_num, ⟨show upd (upd L 2 (L 2 ++ [p])) 3 _ 0 = _ from HL.out.1, by show L 2 ++ [p] = _; rw [runs_snoc, HL.out.2.1, HT.out, HPV.out], by show L 3 ++ [n] = _; rw [cnts_snoc, HL.out.2.2.1, HT.out, HNV.out], HL.out.2.2.2⟩, HSd⟩
                            case measure => have := HLT.out; simp [intOf]; omega
                · have hd : decide ((k : Int) < (ts.length : Int)) = false := decide_eq_false (by omega)
                  have HE := Aside0.mk (show k = ts.length by omega)
                  have HL1 := Aside0.mk (show L 0 = ceilsF ts rs is rs.length ∧ L 2 = runsF ts rs is ts.length ∧ L 3 = cntsF ts rs x.b9 ts.length ∧ L 4 = [] by rw [← HE.out]; have h := HL.out; exact h)
                  have q16 := HS0.out.env.box.isrs
                  clear HL
                  go_wp2_with fail
                  clear q16 HE hd hk hlt
                  go_loopw [132] (fun i wq => ∃ (k : Nat) (V : Nat → Value) (L : Nat → List Int), k ≤ is.length ∧ i = .int .i64 k ∧ Aside0 (L 0 = ceilsF ts rs is rs.length ∧ L 2 = runsF ts rs is ts.length ∧ L 3 = cntsF ts rs x.b9 ts.length ∧ L 4 = isrsF is k) ∧ Aside0 (St x AT cT AR cR AI cI ts.length rs.length is.length Bm lm O w V sk L wq)) (fun i _ => is.length - (intOf i).toNat)
                  case atStart => exact ⟨0, V, L, by omega, rfl, ⟨HL1.out.1, HL1.out.2.1, HL1.out.2.2.1, HL1.out.2.2.2⟩, HS0⟩
                  case round =>
                    clear HS0 HL1
                    obtain ⟨k, V, L, hk, rfl, HL, HS0⟩ := hrel
                    by_cases hlt : k < is.length
                    · have hd : decide ((k : Int) < (is.length : Int)) = true := decide_eq_true (by omega)
                      have HLT := Aside0.mk (Nat.succ_le_of_lt hlt)
                      obtain ⟨ad, A3, c3, A4, c4, e, hta, l5, g5⟩ := isr_cells (HC.out.below HS0.out.bel).i k hlt
                      subst e
                      have HTA := Aside0.mk hta
                      obtain ⟨t, ht0⟩ : ∃ t, is.getD k z66 = t := ⟨_, rfl⟩
                      rw [ht0] at HTA
                      have HT := Aside0.mk ht0
                      clear g5 l5 hta ht0
                      have hba : Below wr.heap.size wr (wr.alloc (.cells #[.string t.f0, .int .i64 t.f1, .int .i64 t.f2, .slice A3 t.f3.length c3, .slice A4 t.f4.length c4] 66)) := (Below.refl _ _).alloc (Nat.le_refl _) _
                      have HSa := Aside0.mk (HS0.out.below hba)
                      have hy3 : (wr.alloc (.cells #[.string t.f0, .int .i64 t.f1, .int .i64 t.f2, .slice A3 t.f3.length c3, .slice A4 t.f4.length c4] 66)).cell? ⟨wr.heap.size, 3, none⟩ = some (.slice A3 t.f3.length c3) := by rw [World.cell?_alloc_new]; rfl
                      obtain ⟨_, _, _, _, o4, _⟩ := HSa.out.out.cells
                      have HL4 := Aside0.mk (show (L 4).length ≤ 4398046511104 by rw [HL.out.2.2.2, isrs_len]; omega)
                      clear hba HS0
                      go_wp2_with (first | ((with_reducible refine gate_dst (N := 135) rfl ?_); refine load66 HTA.out rfl (.tmp 134) rfl rfl ?_) | ((with_reducible refine gate_builtin (b := .append) (xs := #[.tmp 137, .tmp 141]) rfl ?_); at_builtin; (refine Kd.R_append (Kd.int .i64) (w0 := w) w.heap.size rfl (.tmp 137) (.tmp 141) 39 3 (.int .i64 0) 8 rfl Try.underlying39 info3 rfl (by decide) (by omega) _ (L 4) (t.f3.length : Int) [.int .i64 (t.f3.length : Int)] (fun _ => True) (fun _ => False) rfl (by rw [World.size_alloc]; rfl) rfl (fun _ h => h.elim) (fun _ _ => trivial) (HSa.out.out.row 4 (.inr (.inr (.inr rfl)))) HSa.out.bel HSa.out.bel.size ?hl ?_; (case hl => have := HL4.out; omega); intro v5 w5 HR HB HG HA; obtain ⟨A5, c5, e5⟩ := row_slice HR; subst e5; have th := (HSa.out.out.after 4 (.inr (.inr (.inr rfl))) HG); have tf4 := th.2.2.2.2.2 4; have tc4 := th.2.2.2.2.1; clear th; have HSc := Aside0.mk (HSa.out.app 4 (.inr (.inr (.inr rfl))) _ (t.f3.length : Int) HR HB HG HA); clear HR HB HG HA o4)))
                      go_roundw
                      case rel => exact ⟨k + 1, _, upd L 4 (L 4 ++ [(t.f3.length : Int)]), HLT.out, by go_num, ⟨HL.out.1, HL.out.2.1, HL.out.2.2.1, by show L 4 ++ [(t.f3.length : Int)] = _; rw [isrs_snoc, HL.out.2.2.2, HT.out]⟩, HSc⟩
                      case measure => have := HLT.out; simp [intOf]; omega
                    · have hd : decide ((k : Int) < (is.length : Int)) = false := decide_eq_false (by omega)
                      have HE := Aside0.mk (show k = is.length by omega)
                      have HSe := Aside0.mk (show CheckSays ts rs is 0 from HS.out)
                      obtain ⟨o0, o1, o2, o3, o4, _⟩ := HS0.out.out.cells
                      obtain ⟨A0, c0, e0⟩ := Kd.R_slice (HS0.out.out.row 0 (.inl rfl))
                      rw [e0] at o0
                      have E0 := Aside0.mk e0
                      obtain ⟨A2, c2, e2⟩ := Kd.R_slice (HS0.out.out.row 2 (.inr (.inl rfl)))
                      rw [e2] at o2
                      have E2 := Aside0.mk e2
                      obtain ⟨A3, c3, e3⟩ := Kd.R_slice (HS0.out.out.row 3 (.inr (.inr (.inl rfl))))
                      rw [e3] at o3
                      have E3 := Aside0.mk e3
                      obtain ⟨A4, c4, e4⟩ := Kd.R_slice (HS0.out.out.row 4 (.inr (.inr (.inr rfl))))
                      rw [e4] at o4
                      have E4 := Aside0.mk e4
                      obtain ⟨z0, z1, z2, z3, z4, zf⟩ := HS0.out.env.zero.cells
                      have hfin := HS0.out.fin (.slice A0 (L 0).length c0) (.int .i64 sk) (.slice A2 (L 2).length c2) (.slice A3 (L 3).length c3) (.slice A4 (L 4).length c4)
                      have HF := Aside0.mk hfin
                      have HPH := Aside0.mk (put5_heap HS0.out.env.zero (.slice A0 (L 0).length c0) (.int .i64 sk) (.slice A2 (L 2).length c2) (.slice A3 (L 3).length c3) (.slice A4 (L 4).length c4))
                      clear hfin e0 e2 e3 e4
                      go_wp2_with fail
                      refine bodyPost_ret (results_ct rfl _ _ (w.heap.size + 1) 41 #[.slice A0 (L 0).length c0, .int .i64 sk, .slice A2 (L 2).length c2, .slice A3 (L 3).length c3, .slice A4 (L 4).length c4] (0, 0) _ rfl HPH.out Try.underlying41 rfl (by kernel_rfl)) rfl ?_
                      exact ⟨HF.out.1, V, sk, L, 0, by rw [E0.out, E2.out, E3.out, E4.out]; rfl, HF.out.2, HSe.out, .inr ⟨rfl, HSK.out.symm, HL.out.1, HL.out.2.1, HL.out.2.2.1, by rw [HL.out.2.2.2, HE.out]⟩⟩
  · have hvb : (v != 0) = true := by simp [hv]
    have HV := Aside0.mk hv
    obtain ⟨z0, z1, z2, z3, z4, zf⟩ := HZ.out.cells
    have HPH := Aside0.mk (put5_heap HZ.out (.slice none 0 0) (.int .i64 0) (.slice none 0 0) (.slice none 0 0) (.slice none 0 0))
    clear hv
    go_wp2_with fail
    refine bodyPost_ret (results_ct rfl _ _ (w.heap.size + 1) 41 #[.slice none 0 0, .int .i64 0, .slice none 0 0, .slice none 0 0, .slice none 0 0] (0, 0) _ rfl HPH.out Try.underlying41 rfl (by kernel_rfl)) rfl ?_
    exact ⟨put5_below HB.out (by omega) _ _ _ _ _, fun _ => .slice none 0 0, 0, fun _ => [], v, rfl, ⟨fun i _ => Kd.R_nil _ _ _ _ _, fun i j _ _ _ g hg => by simp [Value.ownBlock] at hg⟩, HS.out, .inl ⟨HV.out, rfl, fun _ => rfl⟩⟩
end Go.Proofs.Ytflkbheginhfiaa.XA
