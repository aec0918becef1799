/- texts of this claim. -/
import Derived.Test.YtbgcemijihpakaaG01
import Derived.Test.YtbgcemijihpakaaG02
import Derived.Test.YtbgcemijihpakaaG03
import Derived.Test.YtbgcemijihpakaaG04
import Derived.Test.YtbgcemijihpakaaG05
import Derived.Test.YtbgcemijihpakaaG06
import Derived.Test.YtbgcemijihpakaaG07
import Derived.Test.YtbgcemijihpakaaG08
import Derived.Test.YtbgcemijihpakaaG09
import Derived.Test.YtbgcemijihpakaaG10
import Derived.Test.YtbgcemijihpakaaG11
import Derived.Test.YtbgcemijihpakaaG12
import Derived.Test.YtbgcemijihpakaaG13
import Derived.Test.YtbgcemijihpakaaG14
import Derived.Test.YtbgcemijihpakaaG15
import Derived.Test.YtbgcemijihpakaaG16
import Derived.Test.YtbgcemijihpakaaG17
import Derived.Test.YtbgcemijihpakaaG18
import Derived.Test.YtbgcemijihpakaaG19
import Derived.Test.YtbgcemijihpakaaG20
import Derived.Test.YtbgcemijihpakaaG21
import Derived.Test.YtbgcemijihpakaaG22
import Derived.Test.YtbgcemijihpakaaG23
import Derived.Test.YtbgcemijihpakaaG24
import Derived.Test.YtbgcemijihpakaaG25
import Derived.Test.YtbgcemijihpakaaG26
import Derived.Test.YtbgcemijihpakaaG27
import Derived.Test.YtbgcemijihpakaaG28
import Derived.Test.YtbgcemijihpakaaG29
import Derived.Test.YtbgcemijihpakaaG30
import Derived.Test.YtbgcemijihpakaaG31
import Derived.Test.YtbgcemijihpakaaG32
import Derived.Test.YtbgcemijihpakaaG33
import Derived.Test.YtbgcemijihpakaaG34
import Derived.Test.YtbgcemijihpakaaG35
import Derived.Test.YtbgcemijihpakaaG36
import Derived.Test.YtbgcemijihpakaaG37
import Derived.Test.YtbgcemijihpakaaG38
import Derived.Test.YtbgcemijihpakaaG39
import Derived.Test.YtbgcemijihpakaaG40
import Derived.Test.YtbgcemijihpakaaG41
import Derived.Test.YtbgcemijihpakaaG42
import Derived.Test.YtbgcemijihpakaaG43
import Derived.Test.YtbgcemijihpakaaG44
import Derived.Test.YtbgcemijihpakaaG46
import Derived.Below
import Derived.Deep.Draws
import Derived.Deep.AppendLies
import Derived.Maps.AppendAt
import Derived.OwnWalk
import Derived.Laws.BytesArg
import Derived.Laws.MakeOwn
import Derived.Laws.OwnMore
import Derived.Deep.OwnRows
import Derived.Tactics
import Derived.Lib.ConvBytes
import Derived.Laws.Slices
import Derived.WalkKit
import Derived.KernelRfl
import Derived.RowKit3
import Derived.Deep.LoopGhost
import Derived.Deep.QuietTactic
import Derived.BigQuiet
import Derived.WideLaws
import Derived.Deep.DeepCutAuto
import Derived.Deep.CutBlock
import Derived.Deep.RegionHeld3
import Derived.Laws.Rows
import Derived.Lib.AppendStr
import Derived.ArgAppend
import Derived.Laws.IdiomCopy
import Derived.RowKit
import Derived.SizedLaws
import Derived.ChangeSlices
import Derived.Deep.DeepAppendWide
section
-- PRINTED WORDS (module Derived/Print/Words.lean): go-wishes' parts 1 to 38 and go-gate-2's additions: AI agents of Go's test side, Mon Nov 16 2026; no person has read them. Plain theorems and definitions: no macro, no elab, no axiom.
set_option linter.unusedVariables false
set_option linter.unusedSimpArgs false
namespace Go.Proofs.YtbgcemijihpakaaW.PrintWords
open Go.RowKit

/-! ### 1. Values and lists -/
/-! ### 2. The world -/
/-! ### 3. A slice of whole numbers that is read; nil, empty and other slices alike -/
/-! ### 4. A row of the call's own -/
/-! ### 5. append(v, x): behind 'at_builtin'; the goal's world is 'W.alloc' of the variadic's box -/
/-! ### 6. make([]T, n), n an Int; a literal -/
/-! ### 7. v[i] read and v[i] = x, v a row of the call's own: 'obtain ⟨g, cap, rfl, hgb, hgl⟩ := HO.out.form (by omega)' first -/
/-! ### 8. append(v, ys...): ys a slice that is read, nil let in; behind 'at_builtin' -/
/-! ### 9. []byte(s): a slice that is read (its row bears a conversion's mark: no row of one's own); cuts of a slice that is read -/
/-! ### 10. Rounds: more rounds give the same answer; what ends gives a number of rounds -/
/-! ### 11. Rows of elements of several cells (structs): read, made. R: what an element's cells say ('RepItem w': printed for each type) -/
/-! ### 12. A block of one's own that is a state: its cells, what a store leaves -/
/-! ### 13. Two states at once: what a call on the state at block g (its row before: 'row') has turned -/
/-! ### 10b. From some number of rounds on -/
/-! ### 14. append as_ one step of a region that draws its order: for 'go_region_law' (and a region walked by hand) -/
/-! ### 15. A row's base may be lowered -/
/-! ### 16. Parts 3 to 9 for ANY element of one cell: 'enc' (Value.int k, Value.string, Value.bool), a default 'd' -/
/-! ### 17. Rows of one element type held at once: no two share a block -/
/-! ### 18. A block behind a new one; behind a draw -/
/-! ### 19. Results that lie in memory beside others -/
/-! ### 20. Rows of elements of any kind: R is what an element's cells say -/
/-! ### 21. Cuts of a slice that came in, lengths spelled as_ the lists' -/
/-! ### 22. append([]byte, s...), s a string; behind 'at_builtin'. (No word on where the new row lies: two rows of bytes at once don't go by it.) -/
/-! ### 23. KINDS: what a value's cells say, read (K) and made (M), kind by kind; every mover proved once -/
/-! ### 24. Kinds nested in themselves -/
/-! ### 25. What is held while another row is written: 'ok' says that its rows are none of that row's block -/
/-! ### 26. Words for a printer that takes every slice by its kind -/
/-! ### 27. Cuts of a row of one's own: 'xs = xs[:n]' stays a row (R_take); 'xs = xs[k:]' is a row that begins inside its block (Kd.Q), append goes on it too -/
/-! ### 28. The kinds' words for cuts: R_take; Q (a row that may begin inside its block) with all of R's movers -/
/-! ### 29. Movers that ask of another row no more than they need: for R and for Q -/
/-! ### 30. Elements written: x[i] = T{..}, x[i].f = v, swaps, in a row of elements of any kind -/
/-! ### 31. What came in, put into what is made: 'fixed d w0' (read in w0, whatever happens since), 'or_ a b', 'mix' (a slice that came in, or one that is made) -/
/-! ### 32. A whole row appended, of elements of any kind; copy onto a row of scalars of one's own -/
/-! ### 33. A store into a row of one's own, as_ an event: no go_simp -/
/-! ### 34. Cuts that are only read, of any row -/
/-! ### 35. string(b), b read (a cut too) -/
/-! ### 6. What the printer adds -/
section
variable {P : Program} {ops : Array Oper} {rest : List Oper} {o : Oper} {a : Act} {Q : Exit → Act → World → Prop}
theorem store_event {W w1 : World} (hgd : o.guard = none) {t : TypeId} {p : Tmp} {v : Operand} (_ho : o.op = .store t (.tmp p) v) (hN : o.dst = none)
  (hrun : (execOp a.eval o).run P W = .ok .skip w1) (h : ∀ w', w' = w1 → wpList P ops Q rest a w') : wpList P ops Q (o :: rest) a W := by
 refine wpList_plain hgd fun K hK => ?_
 unfold Oper.wp
 rw [hrun]
 show K (a.put o.dst undef) w1
 rw [hN]
 exact hK _ _ (h _ rfl)
end
section
variable {P : Program} {ops : Array Oper} {rest : List Oper} {o : Oper} {a : Act} {Q : Exit → Act → World → Prop} {W : World}
theorem gate_store {t : TypeId} {p : Tmp} {v : Operand} (_ho : o.op = .store t (.tmp p) v) (h : wpList P ops Q (o :: rest) a W) : wpList P ops Q (o :: rest) a W := h
end
/-! ### 36. Events as_ one step of a region that draws (for one_, two_, three_) -/
/-! ### 37. Results of any shape -/
/-! ### 38. 'out = append(out[:k], out[k+1:]...)': an element taken out of a row of one's own, in place -/
end Go.Proofs.YtbgcemijihpakaaW.PrintWords
end
section
-- PRINTED WORDS (module Derived/Print/Sized.lean): go-gate-2's, for the rows of laws over slices: an AI agent of Go's test side, Tue Nov 17 2026; no person has read it. Lean checks it.
namespace Go.Proofs.YtbgcemijihpakaaW.PrintWords
open Go.ChangeShapes Go.WideShapes
/-- A row's slice of whole numbers is no longer than its weight allows. -/
theorem sized_ints {H : Type} {enc : TypeId × Value → H} {P : Program} {W : World} {base : Nat} {spare : Nat → Bool} {held : Bool} {t e : TypeId} {k : IntKind} {a : Option Addr} {len cap : Nat} {d : DataW H} {ps : List MemPlace} {ts : List TypeId} {ds : List (DataW H)} {j : Nat}
  (hsz : (DataW.weightsEach P ts ds).all (· ≤ reachBytes) = true) (ht : ts[j]? = some t) (hd : ds[j]? = some d) (hu : P.underlying t = some (.slice e)) (he : P.underlying e = some (.int k)) (hc : P.cellsOf e = 1) {B : Nat} (hB : P.bytesOf e = B)
  (h : DataW.Trod enc P W base spare held t (.slice a len cap) d ps) : len * B ≤ 140737488351232 := by
 obtain ⟨fuel, hf⟩ := h
 rcases open_ints hu he hc hf with ⟨hcs, _⟩ | ⟨x, l, c, zs, hcs, _, hl, _, hz, hx, _, _⟩
 ·simp [Value.cells] at hcs
  obtain ⟨rfl, rfl, rfl⟩ := hcs
  simp
 ·simp [Value.cells] at hcs
  obtain ⟨rfl, rfl, rfl⟩ := hcs
  obtain ⟨hx, _⟩ := Prod.mk.inj hx
  subst hx
  have z := sized_slice hsz ht hd hu
  rw [hB] at z
  have hl2 : len ≤ zs.length := by
   rw [hz]
   split
   ·exact hl
   ·exact Nat.le_refl _
  have h1 : (lits (H := H) k (zs.take len)).length + (lits (H := H) k (zs.drop len)).length = zs.length := by
   simp [lits]
   omega
  rw [h1] at z
  exact Nat.le_trans (Nat.mul_le_mul_right _ hl2) z
end Go.Proofs.YtbgcemijihpakaaW.PrintWords
end
section
-- WRITTEN BY wip/tools/xprint.py: a program of this session's over the kit's printer, with texts of this session's own among them
namespace Go.Proofs.Ytbgcemijihpakaa.XA
open Go.RowKit Go.Proofs.YtbgcemijihpakaaW.PrintWords Go.Proofs.YtbgcemijihpakaaW.PrintLast Go.Proofs.YtbgcemijihpakaaW.PrintMore
attribute [local go_sem] max2_int min2_int max_two min_two max_three min_three max_four min_four   -- for this text's walks alone
set_option linter.unusedVariables false
set_option linter.unusedSimpArgs false

/-! ### tappetref01_Copy: function 16 -/
def tappetref01_Copy.l0 : Nat → List Int → List Int → Int → Option (List Int)
 | 0, _, _, _ => none
 | k + 1, x0, x3, x4 => if x4 < (x0.length : Int) then (if 0 ≤ x4 then (if x4 < (x3.length : Int) then (tappetref01_Copy.l0 k x0 (x3.set (x4 : Int).toNat (rd x0 x4)) (wrap64 (x4 + 1))) else (none)) else (none)) else (some x3)
def tappetref01_Copy.f (k : Nat) (l0 : List Int) : Option (List Int) := if 0 ≤ (l0.length : Int) then (if ((l0.length : Int) : Int).toNat ≤ 281474976710656 then (tappetref01_Copy.l0 k l0 (List.replicate ((l0.length : Int) : Int).toNat 0) 0) else (none)) else (none)
theorem tappetref01_Copy.mono_l : ∀ k, (∀ y0 y1 y2, LeO (tappetref01_Copy.l0 k y0 y1 y2) (tappetref01_Copy.l0 (k + 1) y0 y1 y2))
 | 0 => fun _ _ _ r h => by simp [tappetref01_Copy.l0] at h
 | k + 1 => by
  have ih0 := tappetref01_Copy.mono_l k
  ·intro y0 y1 y2
   unfold tappetref01_Copy.l0
   repeat' first
   | (with_reducible exact ih0 _ _ _)
   | (with_reducible exact LeO.refl _)
   | (with_reducible exact LeO.none _)
   | (with_reducible refine LeO.ite ?_ ?_)
   | (with_reducible refine LeO.bind ?_ (fun _ => ?_))
   | exact ih0 _ _ _
   | exact LeO.none _
   | refine LeO.ite ?_ ?_
   | refine LeO.bind ?_ (fun _ => ?_)
theorem tappetref01_Copy.mono : ∀ a0 k, LeO (tappetref01_Copy.f k a0) (tappetref01_Copy.f (k + 1) a0) := by
 intro a0 k
 have ih0 := tappetref01_Copy.mono_l k
 unfold tappetref01_Copy.f
 repeat' first
   | (with_reducible exact ih0 _ _ _)
   | (with_reducible exact LeO.refl _)
   | (with_reducible exact LeO.none _)
   | (with_reducible refine LeO.ite ?_ ?_)
   | (with_reducible refine LeO.bind ?_ (fun _ => ?_))
   | exact ih0 _ _ _
   | exact LeO.none _
   | refine LeO.ite ?_ ?_
   | refine LeO.bind ?_ (fun _ => ?_)
set_option maxHeartbeats 8000000 in
set_option maxRecDepth 100000 in
theorem tappetref01_Copy.calls (k : Nat) (A0 : Option Addr) (c0 : Nat) (l0 : List Int) (r : List Int) (w : World) (hr0 : Kd.C (Kd.int .u8) w A0 l0.length l0) (hc0 : l0.length ≤ c0) (h : tappetref01_Copy.f k l0 = some r) :
  Calls Try.prog 16 #[.slice A0 l0.length c0] w fun e w' => ∃ v0_ : Value, e = .returned (v0_) ∧ Kd.R (Kd.int .u8) 5 w' w.heap.size (fun _ => True) v0_ r ∧ Below w.heap.size w w' := by
 have HR0 := Aside0.mk hr0
 have HC0 := Aside0.mk hc0
 clear hr0 hc0
 have HB := Aside0.mk (Below.refl w.heap.size w)
 have H : (if 0 ≤ (l0.length : Int) then (if ((l0.length : Int) : Int).toNat ≤ 281474976710656 then (tappetref01_Copy.l0 k l0 (List.replicate ((l0.length : Int) : Int).toNat 0) 0) else (none)) else (none)) = some r := h
 clear h
 by_cases c2 : 0 ≤ (l0.length : Int)
 ·rw [if_pos c2] at H
  have c2b0 := eq_true c2
  have c2b1 : decide (0 ≤ (l0.length : Int)) = true := decide_eq_true c2
  clear c2
  by_cases c3 : ((l0.length : Int) : Int).toNat ≤ 281474976710656
  ·rw [if_pos c3] at H
   have c3b0 := eq_true c3
   have c3b1 : decide (((l0.length : Int) : Int).toNat ≤ 281474976710656) = true := decide_eq_true c3
   clear c3
   obtain ⟨y296, hy296⟩ : ∃ y_ : List Int, y_ = (List.replicate ((l0.length : Int) : Int).toNat 0) := ⟨_, rfl⟩
   replace H : (tappetref01_Copy.l0 k l0 y296 0) = some r := by first | (rw [hy296]; with_reducible exact H) | (have H2_ := (Option.bind_some _ _).symm.trans H; rw [hy296]; with_reducible exact H2_) | (have H2_ := (Option.bind_some _ _).symm.trans H; with_reducible exact H2_) | with_reducible exact H | (rw [hy296]; exact H) | exact H
   have Ny296 := Aside0.mk hy296
   clear hy296
   have H' := Aside0.mk H
   clear H
   go_enter Try.func16, Try.ntmps16
   go_wp2_with (first | ((with_reducible refine gate_dst (N := 7) rfl ?_); refine Kd.R_make (Kd.int .u8) _ 5 rfl (N := 7) rfl 34 _ _ rfl (l0.length : Int) rfl rfl Try.underlying34 (.int .u8 0) 1 info5 rfl (by decide) (by omega) 0 (ok := fun _ => True) (okp := fun _ => True) rfl (fun _ hk => hk) trivial (of_decide_eq_true (by first | (with_reducible assumption) | assumption)) (Nat.le_trans (Nat.mul_le_mul_right _ (of_decide_eq_true (by first | (with_reducible assumption) | assumption) : (l0.length : Int).toNat ≤ 281474976710656)) (by omega)) (Below.refl _ _) (Nat.le_refl _) ?_; intro v297 w4 ho5 hb hg_ hnew_; clear hg_ hnew_; (first | rw [← Ny296.out] at ho5 | (simp only [Int.reduceToNat] at ho5; rw [← Ny296.out] at ho5)); have n0_ := Aside0.mk (Kd.R_lower ho5 (below_size (by repeat (first | (with_reducible first | exact HB.out | apply below_alloc | apply pw_below_drewN | apply below_drew1) | exact HB.out)))); have n1_ := Aside0.mk (below_step (by repeat (first | (with_reducible first | exact HB.out | apply below_alloc | apply pw_below_drewN | apply below_drew1) | exact HB.out)) hb); clear HB; have HO298 := n0_; have HB := n1_; clear n0_ n1_; clear hb ho5))
   go_loopg [4] k (fun kq v4 w' => ∃ (x3_1 : List Int) (x4_1 : Int), v4 = .int .i64 x4_1 ∧ Aside0 (tappetref01_Copy.l0 kq l0 x3_1 x4_1 = some r) ∧ Aside0 (kq ≤ k) ∧ Aside0 (Kd.R (Kd.int .u8) 5 w' w.heap.size (fun _ => True) v297 x3_1) ∧ Aside0 (Below w.heap.size w w'))
   case atStart => exact ⟨(y296), (0), (by first | rfl | (simp; done) | (simp [*]; done)), H', ⟨Nat.le_refl _⟩, ⟨by (with_reducible repeat (first | apply Kd.R_alloc | apply Kd.R_drewN | apply Kd.R_drew)); exact HO298.out⟩, ⟨by repeat (first | (with_reducible first | exact HB.out | apply below_alloc | apply pw_below_drewN | apply below_drew1) | exact HB.out)⟩⟩
   case round =>
    clear H'
    try clear c1
    try clear c2
    try clear c2b0
    try clear c2b1
    try clear p2
    try clear c3
    try clear c3b0
    try clear c3b1
    obtain ⟨x3_1, x4_1, rfl, HA, HK1, HO_3, HB⟩ := hrel
    cases gk with
    | zero => exact absurd HA.out (by simp [tappetref01_Copy.l0])
    | succ k1 =>
     have H := HA.out
     clear HA
     simp only [tappetref01_Copy.l0] at H
     by_cases c6 : x4_1 < (l0.length : Int)
     ·rw [if_pos c6] at H
      have c6b0 : decide (x4_1 < (l0.length : Int)) = true := decide_eq_true c6
      clear c6
      by_cases c7 : 0 ≤ x4_1
      ·rw [if_pos c7] at H
       have c7b0 : decide (0 ≤ x4_1) = true := decide_eq_true c7
       clear c7
       by_cases c8 : x4_1 < (x3_1.length : Int)
       ·rw [if_pos c8] at H
        have c8b0 : decide (x4_1 < (x3_1.length : Int)) = true := decide_eq_true c8
        clear c8
        obtain ⟨y300, hy300⟩ : ∃ y_ : List Int, y_ = (x3_1.set (x4_1 : Int).toNat (rd l0 x4_1)) := ⟨_, rfl⟩
        replace H : (tappetref01_Copy.l0 k1 l0 y300 (wrap64 (x4_1 + 1))) = some r := by first | (rw [hy300]; with_reducible exact H) | (have H2_ := (Option.bind_some _ _).symm.trans H; rw [hy300]; with_reducible exact H2_) | (have H2_ := (Option.bind_some _ _).symm.trans H; with_reducible exact H2_) | with_reducible exact H | (rw [hy300]; exact H) | exact H
        have Ny300 := Aside0.mk hy300
        clear hy300
        have H' := Aside0.mk H
        clear H
        have p299 : 0 ≤ (x4_1 : Int) := of_decide_eq_true (by first | (with_reducible assumption) | assumption)
        have q299 : x4_1 < (l0.length : Int) := of_decide_eq_true (by first | (with_reducible assumption) | assumption)
        obtain ⟨ad299, e299, hx299_0⟩ := Kd.at_int HR0.out x4_1 p299 q299
        cases e299
        replace hx299_0 := (HB.out.cell (World.block_lt_of_cell? w _ hx299_0)).trans hx299_0
        replace p299 := eq_true p299
        replace q299 := eq_true q299
        have p9 : 0 ≤ (x4_1 : Int) := of_decide_eq_true (by first | (with_reducible assumption) | assumption)
        have q9 : (x4_1 : Int) < ((x3_1.length : Int) : Int) := of_decide_eq_true (by first | (with_reducible assumption) | assumption)
        obtain ⟨go9, co9, eo9, gb9, gl9, cl9, HG9⟩ := Kd.R_form HO_3.out (by omega)
        (first | cases eo9 | (injection eo9 with ea_ en_ ec_; (first | subst ea_ | (injection ea_ with ea_; subst ea_)); subst ec_; clear en_))
        have GB9 := Aside0.mk gb9
        have GG9 := Aside0.mk HG9
        clear gb9 gl9 HG9
        obtain ⟨hx9_0, hf9_0⟩ := Kd.R_celln 0 HO_3.out (x4_1 : Int) p9 q9
        replace p9 := eq_true p9
        replace q9 := eq_true q9
        have HP10 := Kd.R_putg HO_3.out (x4_1 : Int) (rd l0 x4_1)
        go_wp2_with (first | ((with_reducible refine gate_store (t := 5) (p := 20) rfl ?_); refine store_event (t := 5) (p := 20) (v := ?vo_w11) (w1 := (wr.setCell ⟨go9, (x4_1 : Int).toNat, none⟩ (.int .u8 (rd l0 x4_1)))) ?hg ?ho ?hn ?hr ?_; (case ho => rfl); (case hg => rfl); (case hn => rfl); (case hr => first | (go_simp; done) | (go_simp; rfl)); intro w11 hw; have hg : wr.grownBy w11 (some go9) := (by rw [hw]; exact HP10.2); have hp_ : Kd.R (Kd.int .u8) 5 w11 w.heap.size (fun _ => True) (.slice (some ⟨go9, 0, none⟩) x3_1.length co9) y300 := (by rw [hw, Ny300.out]; exact HP10.1); clear HP10; have n0_ := Aside0.mk (hp_); have n1_ := Aside0.mk ((by rw [hw]; exact below_set (HB.out) GB9.out : Below w.heap.size w w11)); clear HO_3; clear HB; have HO_3 := n0_; have HB := n1_; clear n0_ n1_; clear hg hw hp_))
        go_roundg k1
        case measure => have := HK1.out; omega
        case rel => exact ⟨(y300), (wrap64 (x4_1 + 1)), (by first | rfl | (simp; done) | (simp [*]; done)), H', ⟨by have := HK1.out; omega⟩, ⟨by (with_reducible repeat (first | apply Kd.R_alloc | apply Kd.R_drewN | apply Kd.R_drew)); exact HO_3.out⟩, ⟨by repeat (first | (with_reducible first | exact HB.out | apply below_alloc | apply pw_below_drewN | apply below_drew1) | exact HB.out)⟩⟩
       ·rw [if_neg c8] at H
        exact absurd H (by simp)
      ·rw [if_neg c7] at H
       exact absurd H (by simp)
     ·rw [if_neg c6] at H
      have c6b0 : decide (x4_1 < (l0.length : Int)) = false := decide_eq_false c6
      clear c6
      obtain rfl := Option.some.inj H
      go_wp2
      go_ret
      exact ⟨_, by first | rfl | (simp [errW_none, errW_some] <;> rfl) | (simp [*, errW_none, errW_some] <;> rfl), by (with_reducible repeat (first | apply Kd.R_alloc | apply Kd.R_drewN | apply Kd.R_drew)); exact HO_3.out, by repeat (first | (with_reducible first | exact HB.out | apply below_alloc | apply pw_below_drewN | apply below_drew1) | exact HB.out)⟩
  ·rw [if_neg c3] at H
   exact absurd H (by simp)
 ·rw [if_neg c2] at H
  exact absurd H (by simp)

end Go.Proofs.Ytbgcemijihpakaa.XA
end
section
namespace Go.Proofs.Ytbgcemijihpakaa.XA
set_option linter.unusedVariables false
set_option linter.unusedSimpArgs false
open Go.RowKit Go.WideMaps Go.Maps Go.Proofs.YtbgcemijihpakaaW.PrintWords Go.Proofs.YtbgcemijihpakaaW.PrintLast Go.Proofs.YtbgcemijihpakaaW.PrintMore
def V0 : TV := ⟨none, none, none, none, none, none, none, 0, 0, 0, 0, 0, 0, 0⟩
def t0S : S33 := ⟨0, 0, [], [], [], [], [], [], [], 0, 0, 0, 0⟩
theorem dec_any {b : List Int} {w w' : World} {e : Ending} (hd : DecOut b w e w') : Below w.heap.size w w' ∧ ∃ V t f, e = .returned (.tuple #[.agg (arr V t), .int .i64 f]) ∧ (f = 0 ↔ ∃ t', imgP b = .ok t') := by
 unfold DecOut at hd
 obtain ⟨hb, hd⟩ := hd
 rcases h : imgP b with c | t
 ·rw [h] at hd
  refine ⟨hb, V0, t0S, c, hd, fun h0 => absurd h0 (imgP_err h), ?_⟩
  rintro ⟨t', h'⟩
  cases h'
 ·rw [h] at hd
  obtain ⟨V, he, _⟩ := hd
  exact ⟨hb, V, t, 0, he, fun _ => ⟨t, rfl⟩, fun _ => rfl⟩
theorem copy_l0 (l : List Int) (hb : l.length < 9223372036854775807) : ∀ (d i k : Nat) (x : List Int), i + d = l.length → d < k → x.length = l.length → x.take i = l.take i → tappetref01_Copy.l0 k l x (i : Int) = some l
 | 0, i, k + 1, x, h, _, hx, ht => by
  rw [tappetref01_Copy.l0, if_neg (by omega), ← List.take_of_length_le (show x.length ≤ i by omega), ht, List.take_of_length_le (by omega)]
 | d + 1, i, k + 1, x, h, hk, hx, ht => by
  have hw : wrap64 ((i : Int) + 1) = ((i + 1 : Nat) : Int) := by unfold wrap64; omega
  have hr : YtbgcemijihpakaaW.PrintWords.rd l (i : Int) = l[i] := by unfold YtbgcemijihpakaaW.PrintWords.rd; rw [Int.toNat_natCast, List.getD_eq_getElem?_getD, List.getElem?_eq_getElem (by omega)]; rfl
  rw [tappetref01_Copy.l0, if_pos (by omega), if_pos (by omega), if_pos (by omega), hw, hr, Int.toNat_natCast]
  refine copy_l0 l hb d (i + 1) k _ (by omega) (by omega) (by simp [hx]) ?_
  rw [List.take_succ_eq_append_getElem (by rw [List.length_set]; omega), List.take_succ_eq_append_getElem (by omega), List.take_set_of_le (by omega), ht]
  simp
theorem copy_f (l : List Int) (hb : l.length ≤ 281474976710656) (k : Nat) (hk : l.length < k) : tappetref01_Copy.f k l = some l := by
 unfold tappetref01_Copy.f
 rw [if_pos (by omega), if_pos (by omega)]
 exact copy_l0 l (by omega) l.length 0 k _ (by omega) hk (by simp) (by simp)
theorem bcopy_calls {w : World} {A : Option Addr} {c : Nat} (l : List Int) (hC : (Kd.int .u8).C w A l.length l) (hc : l.length ≤ c) (hn : l.length ≤ 281474976710656) :
  Calls Try.prog 16 #[.slice A l.length c] w fun e w' => ∃ v, e = .returned v ∧ (Kd.int .u8).R 5 w' w.heap.size (fun _ => True) v l ∧ Below w.heap.size w w' :=
 tappetref01_Copy.calls (l.length + 1) A c l l w hC hc (copy_f l hn _ (by omega))
theorem app_more {ops : Array Oper} {rest : List Oper} {o : Oper} {a : Act} {Q : Exit → Act → World → Prop} {W w0 : World} {base : Nat} (hgd : o.guard = none) (s x : Operand)
  (ho : o.op = .call { callee := .builtin .append, args := #[s, x], argTypes := #[34, 34] }) {v : Value} {xs ys : List Int} {A : Option Addr} {c : Nat} (hs : a.eval s = v) (hx : a.eval x = .slice A ys.length c)
  (HO : (Kd.int .u8).R 5 W base (fun _ => True) v xs) (hC : (Kd.int .u8).C W A ys.length ys) (hbase : base ≤ W.heap.size) (hB : Below base w0 W) (hn : xs.length ≤ 60000100) (hm : ys.length ≤ 140737488351232)
  (h : ∀ v1 w1, (Kd.int .u8).R 5 w1 base (fun _ => True) v1 (xs ++ ys) → Below base w0 w1 → wpList Try.prog ops Q rest (a.put o.dst v1) w1) : wpList Try.prog ops Q (o :: rest) a W := by
 by_cases hle : xs.length + ys.length ≤ 140737488355328
 ·exact Kd.R_append_rows (Kd.int .u8) base hgd s x 34 5 (.int .u8 0) 1 ho Try.underlying34 rd_info5 rfl (by decide) (by omega) v xs ys A ys.length c (fun _ => True) (fun _ => False) hs hx HO hC (fun _ _ hk => hk) (fun _ h => h.elim) (fun _ _ => trivial) hB hbase (by omega) (fun v1 w1 h1 h2 _ _ => h v1 w1 h1 h2)
 ·obtain ⟨i0, hi0, hz0, hsz, hby⟩ := info_parts rd_info5
  have hr := Kd.reads_of_C (d := (0 : Int)) hC
  obtain ⟨ad, hA, hcell⟩ := hr.2.2 (by omega)
  subst hA
  have ho0 := Kd.own_of_R HO
  refine wpList_append_own_wide (P := Try.prog) W hgd s x 34 ho base 5 i0 (.int .u8 0) 1 1 Try.underlying34 hi0 hz0 hsz hby rfl (by omega) v xs.length (encs (Value.int .u8) xs) hs ho0 ad ys.length c (encs (Value.int .u8) ys) hx (by simp [encs]) ?_ ?_ (by simp only [maxLen]; omega) (by omega) hbase ?_
  ·intro j u hj
   have hj2 := hj
   unfold encs at hj2
   rw [List.getElem?_map] at hj2
   obtain ⟨y, hy, rfl⟩ := Option.map_eq_some_iff.1 hj2
   obtain ⟨hl, hy2⟩ := List.getElem?_eq_some_iff.1 hy
   have := hcell j hl
   rw [List.getD_eq_getElem?_getD, hy] at this
   exact this
  ·intro u hu
   unfold encs at hu
   obtain ⟨y, _, rfl⟩ := List.mem_map.1 hu
   rfl
  ·intro v1 w1 h1 h2 _
   refine h v1 w1 (Kd.R_of_own (h1 := fun _ => rfl) (by rw [List.length_append, show encs (Value.int .u8) (xs ++ ys) = encs (Value.int .u8) xs ++ encs (Value.int .u8) ys from by simp [encs]]; exact h1) (fun _ _ => trivial)) (hB.grown h2 hbase (own_base ho0))
theorem xor_byte {x m : Int} (hx : 0 ≤ x ∧ x ≤ 255) (hm : 0 ≤ m ∧ m ≤ 255) : (0 ≤ bits .xor .u8 x m ∧ bits .xor .u8 x m ≤ 255) ∧ (bits .xor .u8 x m = x ↔ m = 0) := by
 obtain ⟨a, rfl⟩ : ∃ a : Nat, x = a := ⟨x.toNat, by omega⟩
 obtain ⟨b, rfl⟩ : ∃ b : Nat, m = b := ⟨m.toNat, by omega⟩
 have ea : (BitVec.ofInt 8 (a : Int)).toNat = a := by simp; omega
 have eb : (BitVec.ofInt 8 (b : Int)).toNat = b := by simp; omega
 have hb : bits .xor .u8 (a : Int) (b : Int) = ((BitVec.ofInt 8 (a : Int) ^^^ BitVec.ofInt 8 (b : Int)).toNat : Int) := by
  have := (BitVec.ofInt 8 (a : Int) ^^^ BitVec.ofInt 8 (b : Int)).isLt
  show IntKind.u8.wrap ((BitVec.ofInt 8 (a : Int) ^^^ BitVec.ofInt 8 (b : Int)).toNat : Int) = _
  generalize (BitVec.ofInt 8 (a : Int) ^^^ BitVec.ofInt 8 (b : Int)).toNat = n at this ⊢
  simp only [IntKind.wrap, IntKind.bits, IntKind.signed]
  simp
  omega
 rw [hb]
 have hlt := (BitVec.ofInt 8 (a : Int) ^^^ BitVec.ofInt 8 (b : Int)).isLt
 refine ⟨by omega, fun h => ?_, fun h => ?_⟩
 ·have h1 : (BitVec.ofInt 8 (a : Int) ^^^ BitVec.ofInt 8 (b : Int)).toNat = (BitVec.ofInt 8 (a : Int)).toNat := by rw [ea]; omega
  have h2 := BitVec.eq_of_toNat_eq h1
  have h3 := congrArg (BitVec.ofInt 8 (a : Int) ^^^ ·) h2
  simp only [← BitVec.xor_assoc, BitVec.xor_self, BitVec.zero_xor] at h3
  rw [h3] at eb
  simp at eb
  omega
 ·obtain rfl : b = 0 := by omega
  simp
  omega
/-- a byte turned, a beginning, more behind: told -/
theorem flip_all {t : S33} (ht : tabOk t = true) (ty : TyTab t) {k : Nat} (hk : k < (imgL t).length) {m : Int} (hm : 0 ≤ m ∧ m ≤ 255) {more : List Int} (hB : ∀ x ∈ more, 0 ≤ x ∧ x ≤ 255) :
  ((∃ t', imgP ((imgL t).set k (bits .xor .u8 ((imgL t).getD k 0) m)) = .ok t') ↔ m = 0) ∧ (¬ ∃ t', imgP ((imgL t).take k) = .ok t') ∧ ((∃ t', imgP (imgL t ++ more) = .ok t') ↔ more = []) := by
 obtain ⟨h1, h2, h3⟩ := told ht ty
 have hg : (imgL t).getD k 0 = (imgL t)[k] := by rw [List.getD_eq_getElem?_getD, List.getElem?_eq_getElem hk]; rfl
 have hx := imgL_bytes t _ (List.getElem_mem hk)
 rw [hg]
 obtain ⟨hy, he⟩ := xor_byte hx hm
 refine ⟨⟨fun h => he.mp (h1 k hk _ hy h), fun h => ⟨t, ?_⟩⟩, fun ⟨t', h⟩ => h2 k hk t' h, h3 more hB, fun h => ⟨t, ?_⟩⟩
 ·rw [he.mpr h, List.set_getElem_self]
  exact back_of ht ty
 ·rw [h, List.append_nil]
  exact back_of ht ty
end Go.Proofs.Ytbgcemijihpakaa.XA
end
section
namespace Go.Proofs.Ytbgcemijihpakaa.XA
set_option linter.unusedVariables false
set_option linter.unusedSimpArgs false
open Go.RowKit Go.WideMaps Go.Maps Go.Proofs.YtbgcemijihpakaaW.PrintWords Go.Proofs.YtbgcemijihpakaaW.PrintLast Go.Proofs.YtbgcemijihpakaaW.PrintMore
set_option maxRecDepth 1000000 in
set_option maxHeartbeats 4000000 in
theorem flip_walk (V : TV) (t : S33) (n0 m0 : Int) (A : Option Addr) (c : Nat) (more : List Int) (w : World) (ht : Tb w V t) (ty : TyTab t) (hn : -9223372036854775808 ≤ n0 ∧ n0 ≤ 9223372036854775807) (hm : 0 ≤ m0 ∧ m0 ≤ 255)
  (hC : (Kd.int .u8).C w A more.length more) (hc : more.length ≤ c) (hB : ∀ x ∈ more, 0 ≤ x ∧ x ≤ 255) (hz : more.length ≤ 140737488351232) :
  Calls Try.prog 5 #[.agg (arr V t), .int .i64 n0, .int .u8 m0, .slice A more.length c] w fun e w' => e = .returned (.bool true) ∧ Below w.heap.size w w' := by
 have HS := Aside0.mk (At.made ht)
 have HW := Aside0.mk (below_a w (.cells (arr V t) 33))
 have HTY := Aside0.mk ty
 have HOK := Aside0.mk (fun h : tabOk t = true => (small_of h ty).tab)
 have HN := Aside0.mk hn
 have HM := Aside0.mk hm
 have HC := Aside0.mk (Kd.C_below hC HW.out)
 have HBY := Aside0.mk hB
 have HZ := Aside0.mk hz
 clear ht ty hn hm hC hB hz
 unfold arr at *
 go_enter Try.func5, Try.ntmps5
 go_upto_region 1 with fail
 generalize w.alloc (.cells #[.int .i64 t.f0, .int .i64 t.f1, .slice V.a2 t.f2.length V.k2, .slice V.a3 t.f3.length V.k3, .slice V.a4 t.f4.length V.k4, .slice V.a5 t.f5.length V.k5, .slice V.a6 t.f6.length V.k6, .slice V.a7 t.f7.length V.k7, .slice V.a8 t.f8.length V.k8, .int .i64 t.f9, .int .i64 t.f10, .int .i64 t.f11, .int .i64 t.f12] 33) = w1 at *
 obtain ⟨B0, hB0⟩ : ∃ Q, Q = w.heap.size := ⟨_, rfl⟩
 rw [← hB0] at HS ⊢
 clear hB0
 go_wp2_with ((with_reducible refine gate_dst (N := 20) rfl ?_); refine load33 HS.out rfl (.tmp 4) rfl rfl ?_)
 have hx := enc_calls V t w1 HS.out.tb HOK.out
 unfold arr at hx
 refine hx.mono ?_
 clear hx
 rintro e w2 ⟨v, rfl, r2, b2⟩
 replace HW := Aside0.mk (HW.out.trans (b2.mono HW.out.size))
 replace HC := Aside0.mk (Kd.C_below HC.out b2)
 obtain ⟨Ax, cx, hv, hcx, hCx⟩ := Kd.R_reads r2
 subst hv
 have HX := Aside0.mk hCx
 have HCX := Aside0.mk hcx
 clear r2 b2 hCx hcx HS
 rcases hk : tabOk t with _ | _
 case false =>
  have hE : tabE t = 90 := by unfold tabE; rw [hk]; rfl
  have hL : encL t = [] := by unfold encL; rw [hk]; rfl
  rw [hE, hL]
  clear hk hE hL HX HCX
  go_upto_region 2 with fail
  go_wp2_with fail
  refine (num_calls 90 w2).mono ?_
  rintro e w2' ⟨rfl, rfl⟩
  go_upto_region 3 with fail
  go_wp2_with fail
  refine (num_calls 90 w2).mono ?_
  rintro e w2' ⟨rfl, rfl⟩
  go_wp2_with fail
  refine (alive_calls w2).mono ?_
  rintro e w4 ⟨rfl, hb⟩
  have HF := Aside0.mk (HW.out.trans (hb.mono HW.out.size))
  go_wp2_with fail
  go_ret
  exact ⟨rfl, HF.out⟩
 have hE : tabE t = 0 := by unfold tabE; rw [hk]; rfl
 have hL : encL t = imgL t := by unfold encL; rw [hk]; rfl
 have HFA := Aside0.mk (fun (k : Nat) (hk' : k < (imgL t).length) => flip_all hk HTY.out hk' HM.out HBY.out)
 have HLE := Aside0.mk (show 30 ≤ (imgL t).length ∧ (imgL t).length ≤ 60000100 from by have := imgL_len (small_of hk HTY.out); omega)
 have HBI := Aside0.mk (imgL_bytes t)
 rw [hL] at HX HCX
 rw [hE, hL]
 clear hk hE hL HTY HOK
 generalize imgL t = b at *
 have hpos : ((b.length : Int) == 0) = false := by rw [beq_eq_false_iff_ne]; have := HLE.out; omega
 go_upto_region 2 with fail
 go_wp2_with fail
 refine (num_calls 0 w2).mono ?_
 rintro e w2' ⟨rfl, rfl⟩
 go_upto_region 4 with fail
 obtain ⟨r, hr⟩ : ∃ r, r = Int.tmod n0 (b.length : Int) := ⟨_, rfl⟩
 have HR := Aside0.mk (show -(b.length : Int) < r ∧ r < b.length from by
  have h1 := Int.natAbs_tmod n0 (b.length : Int)
  have h2 : n0.natAbs % (b.length : Int).natAbs < (b.length : Int).natAbs := Nat.mod_lt _ (by have := HLE.out; omega)
  rw [← hr] at h1
  omega)
 have hr1 : wrap64 r = r := by unfold wrap64; have := HR.out; have := HLE.out; omega
 have hr2 : IntKind.i64.wrap r = r := by rw [IntKind.wrap_i64]; have := HR.out; have := HLE.out; omega
 have hn0 : ¬ (b.length : Int) = 0 := by have := HLE.out; omega
 replace hr := hr.symm
 go_upto_region 5 with fail
 clear hr1 hr2 hn0 hpos hr
 obtain ⟨k, hk⟩ : ∃ k : Nat, k = r.natAbs := ⟨_, rfl⟩
 have HK := Aside0.mk (show k < b.length from by have := HR.out; omega)
 have HKR := Aside0.mk hk
 clear hk
 have hsp : (decide (r < 0) = true ∧ -r = (k : Int) ∧ wrap64 (-r) = (k : Int) ∧ IntKind.i64.wrap (-r) = (k : Int)) ∨ (decide (r < 0) = false ∧ r = (k : Int)) := by
  have := HKR.out; have := HR.out; have := HLE.out
  by_cases hneg : r < 0
  ·exact .inl ⟨decide_eq_true hneg, by omega, by unfold wrap64; omega, by rw [IntKind.wrap_i64]; omega⟩
  ·exact .inr ⟨decide_eq_false hneg, by omega⟩
 have hk1 : wrap64 (k : Int) = (k : Int) := by unfold wrap64; have := HK.out; have := HLE.out; omega
 have hk2 : IntKind.i64.wrap (k : Int) = (k : Int) := by rw [IntKind.wrap_i64]; have := HK.out; have := HLE.out; omega
 clear HR HKR
 rcases hsp with ⟨hd, e1, hw1, hw2⟩ | ⟨hd, rfl⟩
 all_goals
  go_upto_region 7 with fail
  go_wp2_with fail
  refine (bcopy_calls b HX.out HCX.out (by have := HLE.out; omega)).mono ?_
  rintro e w3 ⟨v3, rfl, r3, b3⟩
  obtain ⟨g, c3, hv3, hg1, hg2, _⟩ := Kd.R_form r3 (by have := HLE.out; omega)
  subst hv3
  have HR3 := Aside0.mk r3
  obtain ⟨y, hy⟩ : ∃ y, y = bits .xor .u8 (rdOf 0 b (k : Int)) m0 := ⟨_, rfl⟩
  have HB3 := Aside0.mk (b3.setCell (p := ⟨g, k, none⟩) hg1 (.int .u8 y))
  clear r3 b3 hg1 hg2
  go_upto_region 8 with fail
  obtain ⟨hx0, hf0⟩ := Kd.R_celln 0 HR3.out (k : Int) (by omega) (by have := HK.out; omega)
  rw [Int.toNat_natCast] at hx0 hf0
  have i1 : 0 ≤ (k : Int) := by omega
  have i2 : (k : Int) < b.length := by have := HK.out; omega
  go_upto_region 9 with fail
  clear hx0 hf0 i1 i2 hk1 hk2 hd
  try clear e1 hw1 hw2
  have hp := (Kd.R_putg HR3.out (k : Int) (bits .xor .u8 (rdOf 0 b (k : Int)) m0)).1
  rw [← hy] at hp ⊢
  rw [Int.toNat_natCast] at hp
  have hyy : y = bits .xor .u8 (b.getD k 0) m0 := hy
  have HFK := Aside0.mk (HFA.out k HK.out)
  rw [← hyy] at HFK
  have HYB := Aside0.mk (show 0 ≤ y ∧ y ≤ 255 from by
   rw [hyy]
   have hg : b.getD k 0 = b[k]'HK.out := by rw [List.getD_eq_getElem?_getD, List.getElem?_eq_getElem HK.out]; rfl
   rw [hg]
   exact (xor_byte (HBI.out _ (List.getElem_mem HK.out)) HM.out).1)
  obtain ⟨-, hpc, hpC⟩ := Kd.R_reads' hp
  have HP := Aside0.mk hpC
  have HPC := Aside0.mk hpc
  clear hy hyy hp hpC hpc HR3 HFA
  replace HX := Aside0.mk (Kd.C_below HX.out HB3.out)
  replace HC := Aside0.mk (Kd.C_below HC.out HB3.out)
  replace HW := Aside0.mk (HW.out.trans (HB3.out.mono HW.out.size))
  clear HB3
  generalize w3.setCell ⟨g, k, none⟩ (.int .u8 y) = w4 at *
  go_wp2_with fail
  have hd := dec_calls (some ⟨g, 0, none⟩) c3 (b.set k y) w4 HP.out (by rw [List.length_set]; exact HPC.out) (fun z hz => by rcases List.mem_or_eq_of_mem_set hz with hz | rfl; exact HBI.out z hz; exact HYB.out)
  rw [List.length_set] at hd
  refine hd.mono ?_
  clear hd
  rintro e w5 hd
  obtain ⟨hb, V5, t5, f5, rfl, hf⟩ := dec_any hd
  rw [HFK.out.1] at hf
  have HF5 := Aside0.mk hf
  have HBa := Aside0.mk (hb.trans ((below_a w5 (.cells (arr V5 t5) 33)).mono hb.size))
  clear hd hb hf
  unfold arr at HBa
  unfold arr
  go_upto_region 10 with fail
  replace HX := Aside0.mk (Kd.C_below HX.out HBa.out)
  replace HC := Aside0.mk (Kd.C_below HC.out HBa.out)
  replace HW := Aside0.mk (HW.out.trans (HBa.out.mono HW.out.size))
  clear HBa HP HPC
  generalize w5.alloc _ = w6 at *
  obtain ⟨hs3, hr3, hf3⟩ := cut_t HX.out HCX.out k (by have := HK.out; omega)
  have HR3 := Aside0.mk hr3
  have HF3 := Aside0.mk hf3
  have hl3 : (b.take k).length = k := by rw [List.length_take]; have := HK.out; omega
  rw [hl3] at hs3
  clear hr3 hf3
  go_wp2_with fail
  have hd := dec_calls Ax cx (b.take k) w6 (HR3.out _ (Below.refl _ _)) HF3.out (fun z hz => HBI.out z (List.mem_of_mem_take hz))
  rw [hl3] at hd
  refine hd.mono ?_
  clear hd hs3 hl3 HR3 HF3
  rintro e w7 hd
  obtain ⟨hb, V7, t7, f7, rfl, hf⟩ := dec_any hd
  have HF7 := Aside0.mk (show ¬ f7 = 0 from fun h => HFK.out.2.1 (hf.mp h))
  have HBa := Aside0.mk (hb.trans ((below_a w7 (.cells (arr V7 t7) 33)).mono hb.size))
  clear hd hb hf
  unfold arr at HBa
  unfold arr
  go_upto_region 11 with fail
  replace HX := Aside0.mk (Kd.C_below HX.out HBa.out)
  replace HC := Aside0.mk (Kd.C_below HC.out HBa.out)
  replace HW := Aside0.mk (HW.out.trans (HBa.out.mono HW.out.size))
  clear HBa
  generalize w7.alloc _ = w8 at *
  go_wp2_with fail
  refine (bcopy_calls b HX.out HCX.out (by have := HLE.out; omega)).mono ?_
  rintro e w9 ⟨v9, rfl, r9, b9⟩
  have HR9 := Aside0.mk r9
  have HS8 := Aside0.mk HW.out.size
  replace HW := Aside0.mk (HW.out.trans (b9.mono HW.out.size))
  have HC9 := Aside0.mk (Kd.C_below HC.out b9)
  have HS9 := Aside0.mk b9.size
  clear r9 b9 HX HC
  go_wp2_with ((with_reducible refine gate_builtin (b := .append) (xs := #[.tmp 71, .tmp 72]) rfl ?_); at_builtin; refine app_more (w0 := w9) (base := w8.heap.size) rfl (.tmp 71) (.tmp 72) rfl rfl rfl HR9.out HC9.out HS9.out ?hbb (by have := HLE.out; omega) HZ.out ?_; (case hbb => exact (Below.refl w9.heap.size w9).mono HS9.out); intro v10 w10 h10 hb10)
  obtain ⟨Ay, cy, hvy, hcy, hCy⟩ := Kd.R_reads h10
  subst hvy
  replace HW := Aside0.mk (HW.out.trans (hb10.mono HS8.out))
  clear h10 hb10 HR9 HC9 HS9
  refine (dec_calls Ay cy (b ++ more) w10 hCy hcy (fun z hz => (List.mem_append.mp hz).elim (HBI.out z) (HBY.out z))).mono ?_
  clear hcy hCy
  rintro e x1 hd
  obtain ⟨hb, V9, t9, f9, rfl, hf⟩ := dec_any hd
  rw [HFK.out.2.2] at hf
  have HF9 := Aside0.mk hf
  have HBa := Aside0.mk (hb.trans ((below_a x1 (.cells (arr V9 t9) 33)).mono hb.size))
  clear hd hb hf
  unfold arr at HBa
  unfold arr
  go_upto_region 12 with fail
  replace HW := Aside0.mk (HW.out.trans (HBa.out.mono HW.out.size))
  clear HBa
  generalize x1.alloc _ = x2 at *
  obtain ⟨p, ha1, ha2⟩ : ∃ p, (f5 == 0) = p ∧ (m0 == 0) = p := ⟨m0 == 0, by rw [Bool.eq_iff_iff, beq_iff_eq, beq_iff_eq]; exact HF5.out, rfl⟩
  obtain ⟨q, ha3, ha4⟩ : ∃ q, (f9 == 0) = q ∧ ((more.length : Int) == 0) = q := ⟨((more.length : Int) == 0), by
   rw [Bool.eq_iff_iff, beq_iff_eq, beq_iff_eq, HF9.out]
   constructor
   ·intro h; rw [h]; rfl
   ·intro h; exact List.length_eq_zero_iff.mp (by omega), rfl⟩
  have ha7 : (f7 == 0) = false := by rw [beq_eq_false_iff_ne]; exact HF7.out
  have ha7b : (f7 != 0) = true := by rw [bne, ha7]; rfl
  have ha7c : ¬ f7 = 0 := HF7.out
  clear HF5 HF9 HF7 HFK
  cases p <;> cases q
  all_goals
   go_wp2_with fail
   refine (num_calls f5 x2).mono ?_
   rintro e x3 ⟨rfl, rfl⟩
   go_wp2_with fail
   refine (num_calls f7 x2).mono ?_
   rintro e x3 ⟨rfl, rfl⟩
   go_wp2_with fail
   refine (num_calls f9 x2).mono ?_
   rintro e x3 ⟨rfl, rfl⟩
   go_wp2_with fail
   refine (alive_calls x2).mono ?_
   rintro e x4 ⟨rfl, hb⟩
   have HF := Aside0.mk (HW.out.trans (hb.mono HW.out.size))
   go_wp2_with fail
   go_ret
   exact ⟨rfl, HF.out⟩
end Go.Proofs.Ytbgcemijihpakaa.XA
end
section
namespace Go.Proofs.Ytbgcemijihpakaa.Pure
open Go.RowKit Go.Proofs.Ytbgcemijihpakaa.XA Go.Proofs.YtbgcemijihpakaaW.PrintWords
theorem flip_row (W : World) (cs : Array Value) (t : S33) (hK : k33.K W t cs.toList) (ok : ok33 t) (hsz : sz33 t)
  (a : Int) (ha : (Lit.int .i64 a).wf = true) (m : Int) (hm : (Lit.int .u8 m).wf = true)
  (A : Option Addr) (c : Nat) (l : List Int) (hC : (Kd.int .u8).C W A l.length l) (hc : l.length ≤ c) (hw : ∀ x ∈ l, (Lit.int .u8 x).wf = true) (z : l.length * 1 ≤ 140737488351232) :
  Calls Try.prog 5 #[.agg cs, .int .i64 a, .int .u8 m, .slice A l.length c] W fun e W' => e = .returned (.bool true) ∧ Below W.heap.size W W' := by
 obtain ⟨V, rfl, hT⟩ := open33 hK hsz
 refine flip_walk V t a m A c l W hT (ty33 ok) ?_ (wf_u8 hm) hC hc (fun x hx => wf_u8 (hw x hx)) (by omega)
 simp [Lit.wf, IntKind.min, IntKind.max, IntKind.signed, IntKind.bits] at ha
 omega
end Go.Proofs.Ytbgcemijihpakaa.Pure
end
