/- image.Decode: the walk. -/
import Derived.Test.YtbgcemijihpakaaG32
import Derived.Test.YtbgcemijihpakaaG34
import Derived.Lib.Bytes
namespace Go.Proofs.Ytbgcemijihpakaa.XA
set_option linter.unusedVariables false
set_option linter.unusedSimpArgs false
open Go.RowKit Go.WideMaps Go.Maps Go.Proofs.YtbgcemijihpakaaW.PrintWords Go.Proofs.YtbgcemijihpakaaW.PrintLast Go.Proofs.YtbgcemijihpakaaW.PrintMore
theorem str_ne {xs ys : List Int} (hx : ∀ x ∈ xs, 0 ≤ x ∧ x ≤ 255) (hy : ∀ x ∈ ys, 0 ≤ x ∧ x ≤ 255) (hne : xs ≠ ys) : ((strOfNums xs).toList == ys.map (fun n => UInt8.ofNat n.toNat)) = false := by
 have key : ∀ xs ys : List Int, (∀ x ∈ xs, 0 ≤ x ∧ x ≤ 255) → (∀ x ∈ ys, 0 ≤ x ∧ x ≤ 255) → xs.map (fun n => UInt8.ofNat n.toNat) = ys.map (fun n => UInt8.ofNat n.toNat) → xs = ys := by
  intro xs
  induction xs with
  | nil => intro ys _ _ h; cases ys with
   | nil => rfl
   | cons y ys => simp at h
  | cons x xs ih =>
   intro ys hx hy h
   cases ys with
   | nil => simp at h
   | cons y ys =>
    simp only [List.map_cons, List.cons.injEq] at h
    have e := ih ys (fun z hz => hx z (List.mem_cons_of_mem _ hz)) (fun z hz => hy z (List.mem_cons_of_mem _ hz)) h.2
    have h1 := hx x (List.mem_cons_self ..)
    have h2 := hy y (List.mem_cons_self ..)
    have h3 := congrArg UInt8.toNat h.1
    rw [UInt8.toNat_ofNat', UInt8.toNat_ofNat'] at h3
    rw [e]
    congr 1
    omega
 rw [beq_eq_false_iff_ne]
 intro h
 rw [Lib.strOfNums_toList] at h
 exact hne (key xs ys hx hy h)
theorem Dr.below {w w1 w2 : World} {z : Array Value} (h : Dr w w1 z) (hb : Below w1.heap.size w1 w2) : Dr w w2 z := ⟨h.low.trans (hb.mono h.low.size), h.b2.below hb, h.sz, h.b3.below hb⟩
theorem Dr.lt {w w1 : World} {z : Array Value} (h : Dr w w1 z) : w.heap.size + 1 < w1.heap.size := blk_lt h.b3
theorem Dr.only {w w1 w2 : World} {z : Array Value} {B : Nat} (h : Dr w w1 z) (ho : RdOnly w1 w2 B) (hB : w.heap.size + 2 ≤ B) : Dr w w2 z := by
 have := h.low.size
 exact ⟨h.low.trans (below_of_only ho (by omega) (by omega)), h.b2.only ho (by omega), h.sz, h.b3.only ho (by omega)⟩
theorem dr_new (w : World) : Dr w ((w.alloc (.cells z33A 33)).alloc (.cells #[.int .i64 0] 23)) z33A := by
 have h1 := below_a w (.cells z33A 33)
 have h2 := below_a (w.alloc (.cells z33A 33)) (.cells #[.int .i64 0] 23)
 refine ⟨h1.trans (h2.mono h1.size), ?_, rfl, ?_⟩
 ·exact (h2.block _ (by simp)).trans (heap_alloc_new w _)
 ·have := heap_alloc_new (w.alloc (.cells z33A 33)) (.cells #[.int .i64 0] 23)
  rw [show (w.alloc (.cells z33A 33)).heap.size = w.heap.size + 1 by simp] at this
  exact this
/-- another reader's turns leave a reader -/
theorem RdSt.other {w w1 : World} {base B X : Nat} {bs : List Int} {cs : Array Value} (h : RdSt w base B bs) (hg : RdOnly w w1 X) (hX : w.heap[X]? = some (.cells cs 154 (0, 0))) (hne : B ≠ X) : RdSt w1 base B bs := by
 have hB := rd_lt h
 obtain ⟨A, c, h1, h2, h3, h4, h5⟩ := h
 refine ⟨A, c, (hg.block B hB (by simpa using hne)).trans h1, h2, h3, h4, fun hp => ?_⟩
 obtain ⟨g, off, rfl, g1, g2, g3, ⟨cs5, hcs⟩, hc⟩ := h5 hp
 have hgX : g ≠ X := by
  rintro rfl
  rw [hX] at hcs
  injection hcs with hcs
  injection hcs with _ hcs _
  cases hcs
 have hgb := hg.block g g2 (by simpa using hgX)
 refine ⟨g, off, rfl, g1, Nat.lt_of_lt_of_le g2 hg.size, g3, ⟨cs5, hgb.trans hcs⟩, fun j hj => ?_⟩
 rw [← hc j hj]
 simp only [World.cell?, hgb]
theorem RdSt.box {w : World} {base B : Nat} {bs : List Int} (h : RdSt w base B bs) : ∃ cs, w.heap[B]? = some (.cells cs 154 (0, 0)) := by obtain ⟨A, c, h1, _⟩ := h; exact ⟨_, h1⟩
theorem RdSt.ge {w : World} {base B : Nat} {bs : List Int} (h : RdSt w base B bs) : base ≤ B := by obtain ⟨A, c, h1, h2, _⟩ := h; exact h2
theorem imgP_100 {b : List Int} (h : b.length < 4 ∨ b.take 4 ≠ [84, 80, 84, 49]) : imgP b = .error 100 := by unfold imgP; rw [if_pos h]
theorem imgP_30 {b : List Int} (hm : b.take 4 = [84, 80, 84, 49]) (h4 : ¬ b.length < 4) (h : b.length < 30) : imgP b = .error 101 := by unfold imgP; rw [if_neg (by simp [hm]; omega), if_pos h]
/-- what is decided behind the first two tests -/
def imgP2 (b : List Int) : Except Int S33 := match pGet 4 ((b.take 28).drop 4) with
  | .error c => .error c
  | .ok (s, h1) =>
   if s ≠ (b.length : Int) then .error 101
   else if leVal (b.drop (b.length - 2)) ≠ crcL (b.take (b.length - 2)) then .error 102
   else match pReps (pGet 2) 7 h1 with
    | .error c => .error c
    | .ok (ns, h2) => match pSix s ns h2 with
     | .error c => .error c
     | .ok (h, _) => match pRows h ((b.take (b.length - 2)).drop 28) with
      | .error c => .error c
      | .ok (t, r) => if 0 < r.length then .error 101 else if tabE t = 0 then .ok t else .error 90
theorem imgP_2 {b : List Int} (hm : b.take 4 = [84, 80, 84, 49]) (h : ¬ b.length < 30) : imgP b = imgP2 b := by unfold imgP; rw [if_neg (by simp [hm]; omega), if_neg h]; rfl
/-- what is decided behind the sum -/
def imgP5 (h : HeadP) (l4 : List Int) : Except Int S33 := match pRows h l4 with
 | .error c => .error c
 | .ok (t, r) => if 0 < r.length then .error 101 else if tabE t = 0 then .ok t else .error 90
def imgP4 (s : Int) (ns h2 l4 : List Int) : Except Int S33 := match pSix s ns h2 with
 | .error c => .error c
 | .ok (h, _) => imgP5 h l4
def imgP3 (s : Int) (h1 l4 : List Int) : Except Int S33 := match pReps (pGet 2) 7 h1 with
 | .error c => .error c
 | .ok (ns, h2) => imgP4 s ns h2 l4
theorem imgP_3 {b h1 : List Int} (hg : pGet 4 ((b.take 28).drop 4) = .ok ((b.length : Int), h1)) (hs : leVal (b.drop (b.length - 2)) = crcL (b.take (b.length - 2))) : imgP2 b = imgP3 b.length h1 ((b.take (b.length - 2)).drop 28) := by
 unfold imgP2
 rw [hg]
 simp only []
 rw [if_neg (by simp), if_neg (by simp [hs])]
 rfl
theorem imgP_sum {b h1 : List Int} (hg : pGet 4 ((b.take 28).drop 4) = .ok ((b.length : Int), h1)) (hs : leVal (b.drop (b.length - 2)) ≠ crcL (b.take (b.length - 2))) : imgP2 b = .error 102 := by
 unfold imgP2
 rw [hg]
 simp only []
 rw [if_neg (by simp), if_pos hs]
theorem imgP3_no {s : Int} {h1 l4 : List Int} {c : Int} (h : pReps (pGet 2) 7 h1 = .error c) : imgP3 s h1 l4 = .error c := by unfold imgP3; rw [h]
theorem imgP3_ok {s : Int} {h1 l4 ns h2 : List Int} (h : pReps (pGet 2) 7 h1 = .ok (ns, h2)) : imgP3 s h1 l4 = imgP4 s ns h2 l4 := by unfold imgP3; rw [h]
theorem imgP4_no {s : Int} {ns h2 l4 : List Int} {c : Int} (h : pSix s ns h2 = .error c) : imgP4 s ns h2 l4 = .error c := by unfold imgP4; rw [h]
theorem imgP4_ok {s : Int} {ns h2 l4 r : List Int} {h : HeadP} (hq : pSix s ns h2 = .ok (h, r)) : imgP4 s ns h2 l4 = imgP5 h l4 := by unfold imgP4; rw [hq]
theorem imgP5_no {h : HeadP} {l4 : List Int} {c : Int} (hq : pRows h l4 = .error c) : imgP5 h l4 = .error c := by unfold imgP5; rw [hq]
theorem imgP5_ok {h : HeadP} {l4 r : List Int} {t : S33} (hq : pRows h l4 = .ok (t, r)) : imgP5 h l4 = if 0 < r.length then .error 101 else if tabE t = 0 then .ok t else .error 90 := by unfold imgP5; rw [hq]
theorem pBind_eq {α β : Type} {p : Rd α} {f : α → Rd β} {bs r : List Int} {x : α} {q : Except Int (β × List Int)} (e : q = pBind p f bs) (h : p bs = .ok (x, r)) : q = f x r := e.trans (pBind_ok h)
theorem pBind_bad {α β : Type} {p : Rd α} {f : α → Rd β} {bs : List Int} {c : Int} {q : Except Int (β × List Int)} (e : q = pBind p f bs) (h : p bs = .error c) : q = .error c := e.trans (pBind_no h)
/-- the results' boxes, a reader, its box -/
structure DSt (w w' : World) (base B g : Nat) (z : Array Value) (r : List Int) : Prop where
 dr : Dr w w' z
 st : RdSt w' base B r
 bd : ∀ y ∈ r, 0 ≤ y ∧ y ≤ 255
 rb : RBox w' g B
 hB : w.heap.size + 2 ≤ B
 hg : w.heap.size + 2 ≤ g
section
variable {w w' w2 : World} {base B g : Nat} {z : Array Value} {r r2 : List Int}
theorem DSt.go (h : DSt w w' base B g z r) (O : RdOnly w' w2 B) (S : RdSt w2 base B r2) (b : ∀ y ∈ r2, 0 ≤ y ∧ y ≤ 255) : DSt w w2 base B g z r2 := ⟨h.dr.only O h.hB, S, b, h.rb.only O (rbox_ne h.rb h.st), h.hB, h.hg⟩
theorem DSt.below (h : DSt w w' base B g z r) (hb : Below w'.heap.size w' w2) : DSt w w2 base B g z r := ⟨h.dr.below hb, h.st.below hb, h.bd, h.rb.below hb, h.hB, h.hg⟩
theorem Dr.cell (h : Dr w w' z) (i : Nat) (v : Value) : Dr w (w'.setCell ⟨w.heap.size, i, none⟩ v) (z.setIfInBounds i v) := by
 rw [setCell_eq_setRow w' w.heap.size i z 33 (0, 0) v h.b2]
 have hb : Below w.heap.size w' (w'.setRow w.heap.size (z.setIfInBounds i v)) := ⟨rfl, rfl, rfl, by rw [setRow_size]; exact Nat.le_refl _, fun k hk => setRow_other w' _ k _ (by omega)⟩
 exact ⟨h.low.trans hb, ZBox.row h.b2 _, by rw [Array.size_setIfInBounds]; exact h.sz, (setRow_other w' _ _ _ (by omega)).trans h.b3⟩
theorem DSt.cell (h : DSt w w' base B g z r) (i : Nat) (v : Value) : DSt w (w'.setCell ⟨w.heap.size, i, none⟩ v) base B g (z.setIfInBounds i v) r := by
 have hd := h.dr.cell i v
 have := h.hg
 rw [setCell_eq_setRow w' w.heap.size i z 33 (0, 0) v h.dr.b2] at hd ⊢
 exact ⟨hd, h.st.grown (grown_row w' _ _) (fun k hk => by injection hk with hk; subst hk; exact ⟨33, _, h.dr.b2, by decide, by decide⟩), h.bd, h.rb.grown (grown_row w' _ _) (fun he => by injection he with he; omega), h.hB, h.hg⟩
theorem R_cellg {α : Type} {d : Kd α} {e q : Nat} {v : Value} {xs : List α} (h : d.R e w' q (fun _ => True) v xs) (hd : Dr w w' z) (hq : w.heap.size < q) (i : Nat) (u : Value) : d.R e (w'.setCell ⟨w.heap.size, i, none⟩ u) q (fun _ => True) v xs := by
 have := R_only h (grown_row w' w.heap.size (z.setIfInBounds i u)) hq
 rw [← setCell_eq_setRow w' w.heap.size i z 33 (0, 0) u hd.b2] at this
 exact this
theorem row_cells {q : Nat} {A : Option Addr} {n c : Nat} {ns : List Int} (h : (Kd.int .i64).R 3 w' q (fun _ => True) (.slice A n c) ns) (hl : 0 < ns.length) : ∃ ad, A = some ad ∧ n = ns.length ∧ ∀ j, j < ns.length → w'.cell? (ad.add j) = some (.int .i64 (ns.getD j 0)) := by
 obtain ⟨A', c', hs, _, hC⟩ := Kd.R_reads h
 injection hs with hs h2 h3
 subst hs
 obtain ⟨ad, e, h⟩ := (Kd.reads_of_C (d := (0 : Int)) hC).2.2 hl
 exact ⟨ad, e, h2, h⟩
end
/-- another reader's turns leave a row of whole numbers -/
theorem R_other {w w2 : World} {base B q : Nat} {r : List Int} {v : Value} {ns : List Int} (h : (Kd.int .i64).R 3 w q (fun _ => True) v ns) (O : RdOnly w w2 B) (S : RdSt w base B r) : (Kd.int .i64).R 3 w2 q (fun _ => True) v ns := by
 refine row_kept h (fun k hk ho => O.block k hk (fun e => ?_))
 injection e with e
 subst e
 obtain ⟨cs, hc⟩ := own_ty h ho
 obtain ⟨cs2, hc2⟩ := S.box
 exact absurd (ty_ne hc hc2) (by decide)
theorem reps_n {α : Type} {p : Rd α} : ∀ (n : Nat) (bs : List Int) (xs : List α) (r : List Int), pReps p n bs = .ok (xs, r) → xs.length = n
 | 0, bs, xs, r, h => by
  simp only [pReps] at h
  injection h with h
  injection h with h _
  subst h
  rfl
 | n + 1, bs, xs, r, h => by
  simp only [pReps] at h
  rcases hq : p bs with c | ⟨x, r1⟩
  ·rw [hq] at h; cases h
  ·rw [hq] at h
   rcases h2 : pReps p n r1 with c | ⟨l, s⟩
   ·simp only [h2] at h; cases h
   ·simp only [h2] at h
    injection h with h
    injection h with h3 h4
    subst h3
    rw [List.length_cons, reps_n n _ _ _ h2]
theorem tb_of {base : Nat} {w : World} {V : TV} {t : S33} (h : DecRows base w V t) (bd : Bd t) : Tb w V t := by
 have key : ∀ {α : Type} {d : Kd α} {e : TypeId} {A : Option Addr} {k : Nat} {xs : List α}, d.R e w base (fun _ => True) (.slice A xs.length k) xs → xs.length ≤ k ∧ d.C w A xs.length xs := by
  intro α d e A k xs h
  obtain ⟨A', c', hs, h1, h2⟩ := Kd.R_reads h
  injection hs with hs h3 h4
  subst hs h4
  exact ⟨h1, h2⟩
 exact ⟨bd, (key h.tk).1, (key h.tk).2, (key h.rg).1, (key h.rg).2, (key h.rs).1, (key h.rs).2, (key h.ct).1, (key h.ct).2, (key h.al).1, (key h.al).2, (key h.ir).1, (key h.ir).2, (key h.mg).1, (key h.mg).2⟩
theorem DecRows.below {base : Nat} {w w2 : World} {V : TV} {t : S33} (h : DecRows base w V t) (hb : Below w.heap.size w w2) : DecRows base w2 V t := ⟨Kd.R_below h.tk hb, Kd.R_below h.rg hb, Kd.R_below h.rs hb, Kd.R_below h.ct hb, Kd.R_below h.al hb, Kd.R_below h.ir hb, Kd.R_below h.mg hb⟩
theorem DecRows.lower {base base' : Nat} {w : World} {V : TV} {t : S33} (h : DecRows base w V t) (hb : base' ≤ base) : DecRows base' w V t := ⟨Kd.R_lower h.tk hb, Kd.R_lower h.rg hb, Kd.R_lower h.rs hb, Kd.R_lower h.ct hb, Kd.R_lower h.al hb, Kd.R_lower h.ir hb, Kd.R_lower h.mg hb⟩
theorem DecRows.only {base B : Nat} {w w2 : World} {V : TV} {t : S33} (h : DecRows base w V t) (O : RdOnly w w2 B) (hB : B < base) : DecRows base w2 V t := ⟨R_only h.tk O hB, R_only h.rg O hB, R_only h.rs O hB, R_only h.ct O hB, R_only h.al O hB, R_only h.ir O hB, R_only h.mg O hB⟩
theorem add0 (a : Addr) : a.add 0 = a := by simp [Addr.add]
theorem Dr.row {w w' : World} {z : Array Value} (h : Dr w w' z) (cs : Array Value) (hs : cs.size = 13) : Dr w (w'.setRow w.heap.size cs) cs := by
 have hb : Below w.heap.size w' (w'.setRow w.heap.size cs) := ⟨rfl, rfl, rfl, by rw [setRow_size]; exact Nat.le_refl _, fun k hk => setRow_other w' _ k _ (by omega)⟩
 exact ⟨h.low.trans hb, ZBox.row h.b2 _, hs, (setRow_other w' _ _ _ (by omega)).trans h.b3⟩
theorem Dr.zero {w w' : World} {z : Array Value} (h : Dr w w' z) : Dr w (w'.setCell ⟨w.heap.size + 1, 0, none⟩ (.int .i64 0)) z ∧ w'.grownBy (w'.setCell ⟨w.heap.size + 1, 0, none⟩ (.int .i64 0)) (some (w.heap.size + 1)) := by
 rw [setCell_eq_setRow w' (w.heap.size + 1) 0 _ 23 (0, 0) _ h.b3]
 have hb : Below w.heap.size w' (w'.setRow (w.heap.size + 1) (#[Value.int .i64 0].setIfInBounds 0 (.int .i64 0))) := ⟨rfl, rfl, rfl, by rw [setRow_size]; exact Nat.le_refl _, fun k hk => setRow_other w' _ k _ (by omega)⟩
 exact ⟨⟨h.low.trans hb, (setRow_other w' _ _ _ (by omega)).trans h.b2, h.sz, ZBox.row h.b3 _⟩, grown_row w' _ _⟩
theorem leaves_of {P : Program} {fn : Func} {t1 t2 : Array Value} {R : Ending → World → Prop} (h : results fn t1 = results fn t2) : ∀ (ds : List Deferred) (u : FrameMode) (w : World), Leaves P fn t1 R ds u w → Leaves P fn t2 R ds u w := by
 intro ds
 induction ds with
 | nil =>
  intro u w hl
  cases u with
  | run => exact hl
  | returning => obtain ⟨v, hv, hr⟩ := hl; exact ⟨v, h ▸ hv, hr⟩
  | panicking c => exact hl
 | cons d ds ih =>
  rintro u w ⟨hr, fv, cap, f, args, e1, e2, hc⟩
  refine ⟨hr, fv, cap, f, args, e1, e2, hc.mono fun e u' w' hh => ?_⟩
  cases e with
  | returned v => exact ih _ _ hh
  | panicked c => exact ih _ _ hh
  | outgrown => exact hh
theorem results_put {N : Nat} (hN : N ≠ 2 ∧ N ≠ 3) (tmps : Array Value) (v : Value) : results Try.f11 (tmps.setIfInBounds N v) = results Try.f11 tmps := by
 have e2 : (tmps.setIfInBounds N v).getD 2 undef = tmps.getD 2 undef := by simp [Array.getElem?_setIfInBounds_ne hN.1]
 have e3 : (tmps.setIfInBounds N v).getD 3 undef = tmps.getD 3 undef := by simp [Array.getElem?_setIfInBounds_ne hN.2]
 unfold results
 rw [Try.results11]
 simp only [Array.mapM_eq_mapM_toList]
 simp only [List.mapM_cons, List.mapM_nil, e2, e3]
theorem quiet {N : Nat} (hN : N ≠ 2 ∧ N ≠ 3) {R : Ending → World → Prop} {c : List PanicEntry} {a : Act} {v : Value} {w : World} (h : bodyPostD Try.prog Try.f11 R (.panic c) (a.put (some N) v) w) : bodyPostD Try.prog Try.f11 R (.panic c) a w := leaves_of (results_put hN a.tmps v) _ _ _ h
theorem i5 : ∃ i, Try.prog.info? 5 = some i ∧ i.size = 1 := by obtain ⟨i0, hi0, _, hsz, _⟩ := info_parts rd_info5; exact ⟨i0, hi0, hsz⟩
theorem cut_b {w : World} {A : Option Addr} {c : Nat} {b : List Int} (hC : (Kd.int .u8).C w A b.length b) (hc : b.length ≤ c) (lo hi : Nat) (h1 : lo ≤ hi) (h2 : hi ≤ b.length) :
  ∃ (A1 : Option Addr) (c1 : Nat), (∀ W, (Instr.slice 34 (.slice A b.length c) (some (.int .i64 lo)) (some (.int .i64 hi)) none).run Try.prog W = .ok (.slice A1 ((b.take hi).drop lo).length c1) W) ∧ (∀ W, Below w.heap.size w W → (Kd.int .u8).C W A1 ((b.take hi).drop lo).length ((b.take hi).drop lo)) ∧ ((b.take hi).drop lo).length ≤ c1 := by
 obtain ⟨i0, hi0, hsz⟩ := i5
 have hA := Kd.C_mid (lo := lo) (hi := hi) (c := c) hC h1 h2 hc
 have hl : ((b.take hi).drop lo).length = hi - lo := by rw [List.length_drop, List.length_take]; omega
 refine ⟨_, c - lo, fun W => ?_, fun W hB => Kd.C_below hA hB, by omega⟩
 have h := cut_mid (P := Try.prog) 34 5 .i64 .i64 Try.underlying34 hi0 1 hsz A b.length c lo hi (by omega) (by omega) (by omega) hc W
 rw [h, hl]
 rfl
theorem cut_f {w : World} {A : Option Addr} {c : Nat} {b : List Int} (hC : (Kd.int .u8).C w A b.length b) (hc : b.length ≤ c) (lo : Nat) (h1 : lo ≤ b.length) :
  ∃ (A1 : Option Addr) (c1 : Nat), (∀ W, (Instr.slice 34 (.slice A b.length c) (some (.int .i64 lo)) none none).run Try.prog W = .ok (.slice A1 (b.drop lo).length c1) W) ∧ (∀ W, Below w.heap.size w W → (Kd.int .u8).C W A1 (b.drop lo).length (b.drop lo)) ∧ (b.drop lo).length ≤ c1 := by
 obtain ⟨i0, hi0, hsz⟩ := i5
 have hA := Kd.C_drop (m := lo) (c := c) hC h1 hc
 have hl : (b.drop lo).length = b.length - lo := List.length_drop
 refine ⟨_, c - lo, fun W => ?_, fun W hB => Kd.C_below hA hB, by omega⟩
 have h := cut_from (P := Try.prog) 34 5 .i64 Try.underlying34 hi0 1 hsz A b.length c lo (by omega) (by omega) W
 rw [h, hl]
 rfl
theorem cut_t {w : World} {A : Option Addr} {c : Nat} {b : List Int} (hC : (Kd.int .u8).C w A b.length b) (hc : b.length ≤ c) (hi : Nat) (h1 : hi ≤ b.length) :
  (∀ W, (Instr.slice 34 (.slice A b.length c) none (some (.int .i64 hi)) none).run Try.prog W = .ok (.slice A (b.take hi).length c) W) ∧ (∀ W, Below w.heap.size w W → (Kd.int .u8).C W A (b.take hi).length (b.take hi)) ∧ (b.take hi).length ≤ c := by
 obtain ⟨i0, hi0, hsz⟩ := i5
 have hA := Kd.C_take (m := hi) hC h1
 have hl : (b.take hi).length = hi := by rw [List.length_take]; omega
 refine ⟨fun W => ?_, fun W hB => Kd.C_below hA hB, by omega⟩
 have h := cut_to (P := Try.prog) 34 5 .i64 Try.underlying34 hi0 A b.length c hi (by omega) (by omega) hc W
 rw [h, hl]
 rfl
set_option maxRecDepth 1000000 in
set_option maxHeartbeats 4000000 in
theorem dec_calls (A : Option Addr) (c : Nat) (b : List Int) (w : World) (hC : (Kd.int .u8).C w A b.length b) (hc : b.length ≤ c) (hB : ∀ x ∈ b, 0 ≤ x ∧ x ≤ 255) :
  Calls Try.prog 11 #[.slice A b.length c] w fun e w' => DecOut b w e w' := by
 have HC := Aside0.mk hC
 have HCC := Aside0.mk hc
 have HBY := Aside0.mk hB
 have HLEN := Aside0.mk hC.2.1
 clear hC hc hB
 have hmf : ∀ (fn : Fn) (first cap : Array Value) (w : World), (Instr.makeFunc fn first cap).run Try.prog w = .ok (.func fn first cap) w := fun _ _ _ _ => rfl
 go_enter_defers Try.func11, Try.ntmps11
 go_upto_region 2 with fail
 have HD := Aside0.mk (dr_new w)
 unfold z33A at HD
 generalize (w.alloc (.cells #[.int .i64 0, .int .i64 0, .slice none 0 0, .slice none 0 0, .slice none 0 0, .slice none 0 0, .slice none 0 0, .slice none 0 0, .slice none 0 0, .int .i64 0, .int .i64 0, .int .i64 0, .int .i64 0] 33)).alloc (.cells #[.int .i64 0] 23) = w1 at *
 obtain ⟨i5, hi5, hz5⟩ := i5
 by_cases h4 : b.length < 4
 ·have hd : decide ((b.length : Int) < 4) = true := decide_eq_true (by omega)
  have HP := Aside0.mk (imgP_100 (b := b) (.inl h4))
  clear h4
  go_wp2_with fail
  exact door_no HP.out HD.out rfl rfl
 have hd4 : decide ((b.length : Int) < 4) = false := decide_eq_false (by omega)
 have hsl : ∀ W, (Instr.slice 34 (.slice A b.length c) none (some (.int .i64 4)) none).run Try.prog W = .ok (.slice A 4 c) W := fun W => by
  have := cut_to (P := Try.prog) 34 5 .i64 Try.underlying34 hi5 A b.length c 4 (by omega) (by omega) HCC.out W
  simpa using this
 have hcv : (convert 34 9 (.slice A 4 c)).run Try.prog w1 = .ok (.string (strOfNums (b.take 4))) w1 := by
  have h := Kd.C_take (Kd.C_below HC.out HD.out.low) (m := 4) (by omega)
  have hz := Kd.C_string (P := Try.prog) (src := 34) (dst := 9) (e := 5) (c := c) (by kernel_rfl) (by kernel_rfl) (by kernel_rfl) h
  rw [show (b.take 4).length = 4 by rw [List.length_take]; omega] at hz
  exact hz
 have H4 := Aside0.mk h4
 clear h4
 by_cases hm : b.take 4 = [84, 80, 84, 49]
 case neg =>
  have HP := Aside0.mk (imgP_100 (b := b) (.inr hm))
  have hs : ((strOfNums (b.take 4)).toList == [84, 80, 84, 49]) = false := str_ne (ys := [84, 80, 84, 49]) (fun x hx => HBY.out x (List.mem_of_mem_take hx)) (by decide) hm
  generalize strOfNums (b.take 4) = s at *
  clear hm
  go_wp2_with fail
  exact door_no HP.out HD.out rfl rfl
 have hs : strOfNums (b.take 4) = ⟨#[84, 80, 84, 49]⟩ := by rw [hm]; rfl
 rw [hs] at hcv
 clear hs
 have HM := Aside0.mk hm
 clear hm
 go_upto_region 4 with fail
 by_cases h30 : b.length < 30
 ·have hd30 : decide ((b.length : Int) < 30) = true := decide_eq_true (by omega)
  have HP := Aside0.mk (imgP_30 HM.out H4.out h30)
  clear h30
  go_wp2_with fail
  exact door_no HP.out HD.out rfl rfl
 have hd30 : decide ((b.length : Int) < 30) = false := decide_eq_false (by omega)
 have HPB := Aside0.mk (imgP_2 HM.out h30)
 have H30 := Aside0.mk h30
 clear h30 hsl hcv hd4
 obtain ⟨l1, hl1⟩ : ∃ l, l = (b.take 28).drop 4 := ⟨_, rfl⟩
 have hn1 : l1.length = 24 := by rw [hl1, List.length_drop, List.length_take]; have := H30.out; omega
 obtain ⟨A1, c1, hs1, hr1, hf1⟩ := cut_b HC.out HCC.out 4 28 (by omega) (by have := H30.out; omega)
 rw [← hl1] at hs1 hr1 hf1
 replace hs1 : ∀ W, (Instr.slice 34 (.slice A b.length c) (some (.int .i64 4)) (some (.int .i64 28)) none).run Try.prog W = .ok (.slice A1 l1.length c1) W := hs1
 have HL1 := Aside0.mk hl1
 have HN1 := Aside0.mk hn1
 have HR1 := Aside0.mk (hr1 _ HD.out.low)
 have HF1 := Aside0.mk hf1
 clear hl1 hn1 hr1 hf1
 go_wp2_with fail
 refine (newReader_calls A1 c1 l1 w1 HR1.out HF1.out (by have := HN1.out; omega)).mono ?_
 rintro e w2 ⟨B1, rfl, S1, hb2⟩
 have HS1 := Aside0.mk S1
 have HB2 := Aside0.mk hb2
 clear S1 hb2 hs1 hd30 HR1 HF1
 go_upto_region 7 with fail
 have HBa := Aside0.mk (below_a w2 (.cells #[.pointer (some ⟨B1, 0, none⟩)] 78))
 have HX := Aside0.mk (show RBox (w2.alloc (.cells #[.pointer (some ⟨B1, 0, none⟩)] 78)) w2.heap.size B1 from heap_alloc_new w2 _)
 have HGB := Aside0.mk (show w.heap.size + 2 ≤ B1 from by have := HS1.out.ge; have := HD.out.lt; omega)
 have HD2 := Aside0.mk (HD.out.below HB2.out)
 have HG4 := Aside0.mk (show w.heap.size + 2 ≤ w2.heap.size from by have := HD2.out.lt; omega)
 replace HS1 := Aside0.mk (HS1.out.below HBa.out)
 replace HD := Aside0.mk (HD2.out.below HBa.out)
 clear HD2 HBa HB2
 generalize w2.heap.size = g4 at *
 generalize w2.alloc (.cells #[.pointer (some ⟨B1, 0, none⟩)] 78) = w3 at *
 generalize w1.heap.size = base1 at *
 obtain ⟨s, h1, hp1⟩ : ∃ s h1, pGet 4 l1 = .ok (s, h1) := ⟨_, _, by unfold pGet; rw [if_pos (by have := HN1.out; omega)]⟩
 have HP1 := Aside0.mk hp1
 have HBY1 := Aside0.mk (show ∀ x ∈ l1, 0 ≤ x ∧ x ≤ 255 from by rw [HL1.out]; exact fun x hx => HBY.out x (List.mem_of_mem_take (List.mem_of_mem_drop hx)))
 have HSB := Aside0.mk (pGet_bd hp1 HBY1.out)
 clear hp1
 go_wp2_with ((with_reducible refine gate_dst (N := 31) rfl ?_); refine load78 HX.out rfl (.tmp 4) rfl rfl ?_)
 refine (get_calls B1 base1 4 l1 w3 HS1.out HBY1.out (by omega)).mono ?_
 rintro e w4 hg
 obtain ⟨O4, v, rfl, hv, S4, b4⟩ := hg.yes HP1.out
 cases hv
 have HD4 := Aside0.mk (HD.out.only O4 HGB.out)
 have HX4 := Aside0.mk (HX.out.only O4 (rbox_ne HX.out HS1.out))
 have HS4 := Aside0.mk S4
 have HB4 := Aside0.mk b4
 clear hg O4 S4 b4 HX HD HS1
 have hwl : IntKind.u64.wrap (b.length : Int) = (b.length : Int) := by have := HLEN.out; simp only [IntKind.wrap, IntKind.bits, IntKind.signed]; simp; omega
 by_cases hsl : s = (b.length : Int)
 case neg =>
  have HP := Aside0.mk (show imgP b = .error 101 from by rw [HPB.out]; unfold imgP2; rw [← HL1.out, HP1.out]; simp [hsl])
  go_wp2_with fail
  exact door_no HP.out HD4.out rfl rfl
 subst hsl
 have HN32 := Aside0.mk (show b.length < 4294967296 from by have := HSB.out.2.1; omega)
 go_upto_region 9 with fail
 clear hwl
 obtain ⟨n, hn⟩ : ∃ n, n = b.length - 2 := ⟨_, rfl⟩
 have HN := Aside0.mk hn
 have HN2 := Aside0.mk (show n + 2 = b.length from by have := H30.out; omega)
 clear hn
 have he1 : IntKind.i64.wrap ((b.length : Int) - 2) = (n : Int) := by rw [IntKind.wrap_i64]; have := HN2.out; have := HLEN.out; omega
 have he2 : wrap64 ((b.length : Int) - 2) = (n : Int) := by unfold wrap64; have := HN2.out; have := HLEN.out; omega
 go_upto_region 10 with fail
 clear he1 he2
 obtain ⟨l2, hl2⟩ : ∃ l, l = b.drop n := ⟨_, rfl⟩
 have hn2 : l2.length = 2 := by rw [hl2, List.length_drop]; have := HN2.out; omega
 obtain ⟨A2, c2, hs2, hr2, hf2⟩ := cut_f HC.out HCC.out n (by have := HN2.out; omega)
 rw [← hl2] at hs2 hr2 hf2
 have HL2 := Aside0.mk hl2
 have HM2 := Aside0.mk hn2
 have HR2 := Aside0.mk (hr2 _ HD4.out.low)
 have HF2 := Aside0.mk hf2
 clear hl2 hn2 hr2 hf2
 go_wp2_with fail
 refine (newReader_calls A2 c2 l2 w4 HR2.out HF2.out (by have := HM2.out; omega)).mono ?_
 rintro e w5 ⟨B2, rfl, S5, hb5⟩
 have HS5 := Aside0.mk S5
 have HD5 := Aside0.mk (HD4.out.below hb5)
 have HX5 := Aside0.mk (HX4.out.below hb5)
 have HR5 := Aside0.mk (HS4.out.below hb5)
 have HNE := Aside0.mk (show B1 < B2 from by have := S5.ge; have := rd_lt HS4.out; omega)
 have HG2 := Aside0.mk (show g4 < B2 from by have := S5.ge; have := blk_lt HX4.out; omega)
 clear S5 hb5 hs2 HR2 HF2 HD4 HX4 HS4
 go_wp2_with fail
 refine (number_yes B2 w4.heap.size l2 2 w5 HS5.out (by omega) (by have := HM2.out; omega) (by rw [HL2.out]; exact fun x hx => HBY.out x (List.mem_of_mem_drop hx))).mono ?_
 rintro e w6 ⟨rfl, S6, O6⟩
 have HV2 := Aside0.mk (show leVal (l2.take 2) = leVal l2 from by rw [List.take_of_length_le (by have := HM2.out; omega)])
 have HD6 := Aside0.mk (HD5.out.only O6 (by have := HNE.out; have := HGB.out; omega))
 have HX6 := Aside0.mk (HX5.out.only O6 (by have := HG2.out; omega))
 have HR6 := Aside0.mk (show RdSt w6 base1 B1 h1 from by obtain ⟨cs, hcs⟩ := HS5.out.box; exact HR5.out.other O6 hcs (by have := HNE.out; omega))
 rw [HV2.out]
 clear S6 O6 HS5 HD5 HX5 HR5 HV2
 obtain ⟨v2, hv2⟩ : ∃ v, v = leVal l2 := ⟨_, rfl⟩
 rw [← hv2]
 have HV2 := Aside0.mk hv2
 clear hv2
 go_upto_region 11 with fail
 obtain ⟨l3, hl3⟩ : ∃ l, l = b.take n := ⟨_, rfl⟩
 obtain ⟨hs3, hr3, hf3⟩ := cut_t HC.out HCC.out n (by have := HN2.out; omega)
 rw [← hl3] at hs3 hr3 hf3
 have HL3 := Aside0.mk hl3
 have HR3 := Aside0.mk hr3
 have HF3 := Aside0.mk hf3
 clear hl3 hr3 hf3
 go_wp2_with fail
 refine (crc_calls l3 (slice_one (heap_alloc_new w6 _) rfl (HR3.out _ (HD6.out.low.trans ((below_a w6 _).mono HD6.out.low.size))) HF3.out) (by rw [HL3.out]; exact fun x hx => HBY.out x (List.mem_of_mem_take hx)) (by rw [HL3.out, List.length_take]; have := HN32.out; omega)).mono ?_
 rintro e w7 ⟨rfl, hb7⟩
 have HJ := Aside0.mk (show DSt w w7 base1 B1 g4 _ h1 from (DSt.below (w' := w6) ⟨HD6.out, HR6.out, HB4.out, HX6.out, HGB.out, HG4.out⟩ (below_a w6 _)).below hb7)
 clear HD6 HR6 HX6 hb7 hs3 HR3 HF3
 have hwc : IntKind.u64.wrap (crcL l3) = crcL l3 := by have := crcL_bd l3; simp only [IntKind.wrap, IntKind.bits, IntKind.signed]; simp; omega
 obtain ⟨v3, hv3⟩ : ∃ v, v = crcL l3 := ⟨_, rfl⟩
 rw [← hv3] at hwc ⊢
 have HV3 := Aside0.mk hv3
 clear hv3
 have HGL := Aside0.mk (show pGet 4 ((b.take 28).drop 4) = .ok ((b.length : Int), h1) from by rw [← HL1.out]; exact HP1.out)
 by_cases hq : v2 = v3
 case neg =>
  have HP := Aside0.mk (show imgP b = .error 102 from by
   rw [HPB.out]
   refine imgP_sum HGL.out ?_
   rw [← HN.out, ← HL2.out, ← HL3.out, ← HV2.out, ← HV3.out]
   exact hq)
  go_wp2_with fail
  exact door_no HP.out HJ.out.dr rfl rfl
 have HPC := Aside0.mk (show imgP b = imgP3 b.length h1 ((b.take n).drop 28) from by
  rw [HPB.out, HN.out]
  refine imgP_3 HGL.out ?_
  rw [← HN.out, ← HL2.out, ← HL3.out, ← HV2.out, ← HV3.out]
  exact hq)
 subst hq
 go_upto_region 13 with fail
 clear hwc
 go_wp2_with fail
 refine (taken_int B1 base1 g4 7 h1 w7 HJ.out.st HJ.out.bd HJ.out.rb (by omega)).mono ?_
 rintro e w8 hg
 rcases hp : pReps (pGet 2) 7 h1 with c | ⟨ns, h2⟩
 ·obtain ⟨O, rfl⟩ := hg.no hp
  exact door_no (HPC.out.trans (imgP3_no hp)) (HJ.out.dr.only O HGB.out) rfl rfl
 obtain ⟨O8, v, rfl, hV, S8, b8⟩ := hg.yes hp
 obtain ⟨hn7, hnb⟩ := reps_bd 7 _ _ _ HJ.out.bd hp
 obtain ⟨An, cn, hvn⟩ : ∃ A c, v = .slice A ns.length c := Kd.R_slice hV
 subst hvn
 rw [hn7] at hV ⊢
 have HPD := Aside0.mk (HPC.out.trans (imgP3_ok hp))
 have HJ8 := Aside0.mk (HJ.out.go O8 S8 b8)
 have HRN := Aside0.mk hV
 have HQ := Aside0.mk (show w.heap.size < w7.heap.size ∧ B1 < w7.heap.size from ⟨by have := HJ.out.dr.lt; omega, rd_lt HJ.out.st⟩)
 have HN7 := Aside0.mk hn7
 have HNB := Aside0.mk hnb
 clear hg hp O8 S8 b8 hV hn7 hnb HJ HPC HGL
 generalize w7.heap.size = q0 at *
 go_upto_region 14 with fail
 refine start_ (n := 24) (S := fun w_ => RBox w_ g4 B1) (ds := [13, 15, 17, 19, 21, 23]) #[false, false, false, false, false, false, false, false, false, false, false, false, false, false, false, false, false, false, false, false, false, false, false, false] (by kernel_rfl) rfl rfl (HJ8.out.rb.below (drew_below w8)) (fun hHeld => ?_)
 clear hHeld
 have HDB := Aside0.mk (drew_below w8)
 replace HJ8 := Aside0.mk (HJ8.out.below HDB.out)
 replace HRN := Aside0.mk (Kd.R_below HRN.out HDB.out)
 clear HDB
 generalize w8.drew = u0 at *
 refine take_ (i := 0) (N := some 62) (v := ?_) (a' := ?_) #[true, false, false, false, false, false, false, false, false, false, false, false, false, false, false, false, false, false, false, false, false, false, false, false] rfl rfl (by kernel_rfl) (fun _ _ _ h => quiet (N := 62) (by decide) h) (Or.inl ⟨by rfl, ?_⟩) HJ8.out.rb ?_ ?_
 rotate_left
 ·rintro w_ s
  refine run78 s (.tmp 4) ?_ ?_ <;> rfl
 rotate_left
 ·simp only [Act.put, List.setIfInBounds_toArray, List.set_cons_zero, List.set_cons_succ, i64_w, i32_w]
  rfl
 refine take_ (i := 2) (N := some 64) (v := ?_) (a' := ?_) #[true, false, true, false, false, false, false, false, false, false, false, false, false, false, false, false, false, false, false, false, false, false, false, false] rfl rfl (by kernel_rfl) (fun _ _ _ h => quiet (N := 64) (by decide) h) (Or.inl ⟨by rfl, ?_⟩) HJ8.out.rb ?_ ?_
 rotate_left
 ·rintro w_ s
  refine run78 s (.tmp 4) ?_ ?_ <;> rfl
 rotate_left
 ·simp only [Act.put, List.setIfInBounds_toArray, List.set_cons_zero, List.set_cons_succ, i64_w, i32_w]
  rfl
 refine take_ (i := 4) (N := some 66) (v := ?_) (a' := ?_) #[true, false, true, false, true, false, false, false, false, false, false, false, false, false, false, false, false, false, false, false, false, false, false, false] rfl rfl (by kernel_rfl) (fun _ _ _ h => quiet (N := 66) (by decide) h) (Or.inl ⟨by rfl, ?_⟩) HJ8.out.rb ?_ ?_
 rotate_left
 ·rintro w_ s
  refine run78 s (.tmp 4) ?_ ?_ <;> rfl
 rotate_left
 ·simp only [Act.put, List.setIfInBounds_toArray, List.set_cons_zero, List.set_cons_succ, i64_w, i32_w]
  rfl
 refine take_ (i := 6) (N := some 68) (v := ?_) (a' := ?_) #[true, false, true, false, true, false, true, false, false, false, false, false, false, false, false, false, false, false, false, false, false, false, false, false] rfl rfl (by kernel_rfl) (fun _ _ _ h => quiet (N := 68) (by decide) h) (Or.inl ⟨by rfl, ?_⟩) HJ8.out.rb ?_ ?_
 rotate_left
 ·rintro w_ s
  refine run78 s (.tmp 4) ?_ ?_ <;> rfl
 rotate_left
 ·simp only [Act.put, List.setIfInBounds_toArray, List.set_cons_zero, List.set_cons_succ, i64_w, i32_w]
  rfl
 refine take_ (i := 8) (N := some 70) (v := ?_) (a' := ?_) #[true, false, true, false, true, false, true, false, true, false, false, false, false, false, false, false, false, false, false, false, false, false, false, false] rfl rfl (by kernel_rfl) (fun _ _ _ h => quiet (N := 70) (by decide) h) (Or.inl ⟨by rfl, ?_⟩) HJ8.out.rb ?_ ?_
 rotate_left
 ·rintro w_ s
  refine run78 s (.tmp 4) ?_ ?_ <;> rfl
 rotate_left
 ·simp only [Act.put, List.setIfInBounds_toArray, List.set_cons_zero, List.set_cons_succ, i64_w, i32_w]
  rfl
 refine take_ (i := 10) (N := some 72) (v := ?_) (a' := ?_) #[true, false, true, false, true, false, true, false, true, false, true, false, false, false, false, false, false, false, false, false, false, false, false, false] rfl rfl (by kernel_rfl) (fun _ _ _ h => quiet (N := 72) (by decide) h) (Or.inl ⟨by rfl, ?_⟩) HJ8.out.rb ?_ ?_
 rotate_left
 ·rintro w_ s
  refine run78 s (.tmp 4) ?_ ?_ <;> rfl
 rotate_left
 ·simp only [Act.put, List.setIfInBounds_toArray, List.set_cons_zero, List.set_cons_succ, i64_w, i32_w]
  rfl
 have HQ0 := Aside0.mk (show pSix b.length ns h2 = _ from rfl)
 unfold pSix at HQ0
 obtain ⟨r0, hr0⟩ : ∃ r, r = h2 := ⟨_, rfl⟩
 rw [← hr0] at HJ8 HQ0 HPD
 clear hr0
 have HK0 := HJ8
 have HN0 := HRN
 clear HJ8 HRN
 refine one_ (i := 1) (N := some 63) #[true, true, true, false, true, false, true, false, true, false, true, false, false, false, false, false, false, false, false, false, false, false, false, false] rfl rfl (by kernel_rfl) (by decide) (fun K hK => ?_)
 refine goes2_ Try.func35 (by kernel_rfl) rfl #[.agg #[.pointer (some ⟨B1, 0, none⟩)]] (by rfl) rfl rfl (by first | rfl | (simp only [List.map_toArray, List.map_cons, List.map_nil]; rfl) | simp) ?_
 refine (byte_calls B1 base1 r0 u0 HK0.out.st HK0.out.bd).mono ?_
 rintro e u1 hg
 rcases hp : pGet 1 r0 with c | ⟨x0, r1⟩
 ·obtain ⟨O, rfl⟩ := hg.no hp
  exact .inr ⟨_, rfl, door_no (HPD.out.trans (imgP4_no (pBind_bad HQ0.out hp))) (HK0.out.dr.only O HGB.out) rfl rfl⟩
 obtain ⟨O, v, rfl, hV, S1, b1⟩ := hg.yes hp
 cases hV
 have HK1 := Aside0.mk (HK0.out.go O S1 b1)
 have HN1 := Aside0.mk (R_only HN0.out O HQ.out.2)
 have HQ1 := Aside0.mk (pBind_eq HQ0.out hp)
 clear hg hp O S1 b1 HK0 HN0 HQ0
 refine .inl ⟨_, rfl, ?_⟩
 refine hK.out _ _ HK1.out.rb (fun _ => ?_)
 clear hK K
 refine norm_ (a' := ?_) ?_ ?_
 rotate_left
 ·show Act.put _ (some 63) _ = _
  simp only [Act.put, List.setIfInBounds_toArray, List.set_cons_zero, List.set_cons_succ, i64_w, i32_w]
  rfl
 refine pure_ (i := 12) (N := some 74) (v := ?_) (a' := ?_) #[true, true, true, false, true, false, true, false, true, false, true, false, true, false, false, false, false, false, false, false, false, false, false, false] rfl rfl (by kernel_rfl) (fun _ _ _ h => quiet (N := 74) (by decide) h) (Or.inl ⟨by rfl, ?_⟩) ?_ ?_
 rotate_left
 ·intro w_
  go_simp
  with_reducible rfl
 rotate_left
 ·simp only [Act.put, List.setIfInBounds_toArray, List.set_cons_zero, List.set_cons_succ, i64_w, i32_w]
  rfl
 refine one_ (i := 3) (N := some 65) #[true, true, true, true, true, false, true, false, true, false, true, false, true, false, false, false, false, false, false, false, false, false, false, false] rfl rfl (by kernel_rfl) (by decide) (fun K hK => ?_)
 refine goes2_ Try.func35 (by kernel_rfl) rfl #[.agg #[.pointer (some ⟨B1, 0, none⟩)]] (by rfl) rfl rfl (by first | rfl | (simp only [List.map_toArray, List.map_cons, List.map_nil]; rfl) | simp) ?_
 refine (byte_calls B1 base1 r1 u1 HK1.out.st HK1.out.bd).mono ?_
 rintro e u2 hg
 rcases hp : pGet 1 r1 with c | ⟨x1, r2⟩
 ·obtain ⟨O, rfl⟩ := hg.no hp
  exact .inr ⟨_, rfl, door_no (HPD.out.trans (imgP4_no (pBind_bad HQ1.out hp))) (HK1.out.dr.only O HGB.out) rfl rfl⟩
 obtain ⟨O, v, rfl, hV, S1, b1⟩ := hg.yes hp
 cases hV
 have HK2 := Aside0.mk (HK1.out.go O S1 b1)
 have HN2 := Aside0.mk (R_only HN1.out O HQ.out.2)
 have HQ2 := Aside0.mk (pBind_eq HQ1.out hp)
 clear hg hp O S1 b1 HK1 HN1 HQ1
 refine .inl ⟨_, rfl, ?_⟩
 refine hK.out _ _ HK2.out.rb (fun _ => ?_)
 clear hK K
 refine norm_ (a' := ?_) ?_ ?_
 rotate_left
 ·show Act.put _ (some 65) _ = _
  simp only [Act.put, List.setIfInBounds_toArray, List.set_cons_zero, List.set_cons_succ, i64_w, i32_w]
  rfl
 refine one_ (i := 5) (N := some 67) #[true, true, true, true, true, true, true, false, true, false, true, false, true, false, false, false, false, false, false, false, false, false, false, false] rfl rfl (by kernel_rfl) (by decide) (fun K hK => ?_)
 refine goes2_ Try.func35 (by kernel_rfl) rfl #[.agg #[.pointer (some ⟨B1, 0, none⟩)]] (by rfl) rfl rfl (by first | rfl | (simp only [List.map_toArray, List.map_cons, List.map_nil]; rfl) | simp) ?_
 refine (byte_calls B1 base1 r2 u2 HK2.out.st HK2.out.bd).mono ?_
 rintro e u3 hg
 rcases hp : pGet 1 r2 with c | ⟨x2, r3⟩
 ·obtain ⟨O, rfl⟩ := hg.no hp
  exact .inr ⟨_, rfl, door_no (HPD.out.trans (imgP4_no (pBind_bad HQ2.out hp))) (HK2.out.dr.only O HGB.out) rfl rfl⟩
 obtain ⟨O, v, rfl, hV, S1, b1⟩ := hg.yes hp
 cases hV
 have HK3 := Aside0.mk (HK2.out.go O S1 b1)
 have HN3 := Aside0.mk (R_only HN2.out O HQ.out.2)
 have HQ3 := Aside0.mk (pBind_eq HQ2.out hp)
 clear hg hp O S1 b1 HK2 HN2 HQ2
 refine .inl ⟨_, rfl, ?_⟩
 refine hK.out _ _ HK3.out.rb (fun _ => ?_)
 clear hK K
 refine norm_ (a' := ?_) ?_ ?_
 rotate_left
 ·show Act.put _ (some 67) _ = _
  simp only [Act.put, List.setIfInBounds_toArray, List.set_cons_zero, List.set_cons_succ, i64_w, i32_w]
  rfl
 refine one_ (i := 7) (N := some 69) #[true, true, true, true, true, true, true, true, true, false, true, false, true, false, false, false, false, false, false, false, false, false, false, false] rfl rfl (by kernel_rfl) (by decide) (fun K hK => ?_)
 refine goes2_ Try.func35 (by kernel_rfl) rfl #[.agg #[.pointer (some ⟨B1, 0, none⟩)]] (by rfl) rfl rfl (by first | rfl | (simp only [List.map_toArray, List.map_cons, List.map_nil]; rfl) | simp) ?_
 refine (byte_calls B1 base1 r3 u3 HK3.out.st HK3.out.bd).mono ?_
 rintro e u4 hg
 rcases hp : pGet 1 r3 with c | ⟨x3, r4⟩
 ·obtain ⟨O, rfl⟩ := hg.no hp
  exact .inr ⟨_, rfl, door_no (HPD.out.trans (imgP4_no (pBind_bad HQ3.out hp))) (HK3.out.dr.only O HGB.out) rfl rfl⟩
 obtain ⟨O, v, rfl, hV, S1, b1⟩ := hg.yes hp
 cases hV
 have HK4 := Aside0.mk (HK3.out.go O S1 b1)
 have HN4 := Aside0.mk (R_only HN3.out O HQ.out.2)
 have HQ4 := Aside0.mk (pBind_eq HQ3.out hp)
 clear hg hp O S1 b1 HK3 HN3 HQ3
 refine .inl ⟨_, rfl, ?_⟩
 refine hK.out _ _ HK4.out.rb (fun _ => ?_)
 clear hK K
 refine norm_ (a' := ?_) ?_ ?_
 rotate_left
 ·show Act.put _ (some 69) _ = _
  simp only [Act.put, List.setIfInBounds_toArray, List.set_cons_zero, List.set_cons_succ, i64_w, i32_w]
  rfl
 refine one_ (i := 9) (N := some 71) #[true, true, true, true, true, true, true, true, true, true, true, false, true, false, false, false, false, false, false, false, false, false, false, false] rfl rfl (by kernel_rfl) (by decide) (fun K hK => ?_)
 refine goes2_ Try.func35 (by kernel_rfl) rfl #[.agg #[.pointer (some ⟨B1, 0, none⟩)]] (by rfl) rfl rfl (by first | rfl | (simp only [List.map_toArray, List.map_cons, List.map_nil]; rfl) | simp) ?_
 refine (byte_calls B1 base1 r4 u4 HK4.out.st HK4.out.bd).mono ?_
 rintro e u5 hg
 rcases hp : pGet 1 r4 with c | ⟨x4, r5⟩
 ·obtain ⟨O, rfl⟩ := hg.no hp
  exact .inr ⟨_, rfl, door_no (HPD.out.trans (imgP4_no (pBind_bad HQ4.out hp))) (HK4.out.dr.only O HGB.out) rfl rfl⟩
 obtain ⟨O, v, rfl, hV, S1, b1⟩ := hg.yes hp
 cases hV
 have HK5 := Aside0.mk (HK4.out.go O S1 b1)
 have HN5 := Aside0.mk (R_only HN4.out O HQ.out.2)
 have HQ5 := Aside0.mk (pBind_eq HQ4.out hp)
 clear hg hp O S1 b1 HK4 HN4 HQ4
 refine .inl ⟨_, rfl, ?_⟩
 refine hK.out _ _ HK5.out.rb (fun _ => ?_)
 clear hK K
 refine norm_ (a' := ?_) ?_ ?_
 rotate_left
 ·show Act.put _ (some 71) _ = _
  simp only [Act.put, List.setIfInBounds_toArray, List.set_cons_zero, List.set_cons_succ, i64_w, i32_w]
  rfl
 refine one_ (i := 11) (N := some 73) #[true, true, true, true, true, true, true, true, true, true, true, true, true, false, false, false, false, false, false, false, false, false, false, false] rfl rfl (by kernel_rfl) (by decide) (fun K hK => ?_)
 refine goes2_ Try.func35 (by kernel_rfl) rfl #[.agg #[.pointer (some ⟨B1, 0, none⟩)]] (by rfl) rfl rfl (by first | rfl | (simp only [List.map_toArray, List.map_cons, List.map_nil]; rfl) | simp) ?_
 refine (byte_calls B1 base1 r5 u5 HK5.out.st HK5.out.bd).mono ?_
 rintro e u6 hg
 rcases hp : pGet 1 r5 with c | ⟨x5, r6⟩
 ·obtain ⟨O, rfl⟩ := hg.no hp
  exact .inr ⟨_, rfl, door_no (HPD.out.trans (imgP4_no (pBind_bad HQ5.out hp))) (HK5.out.dr.only O HGB.out) rfl rfl⟩
 obtain ⟨O, v, rfl, hV, S1, b1⟩ := hg.yes hp
 cases hV
 have HK6 := Aside0.mk (HK5.out.go O S1 b1)
 have HN6 := Aside0.mk (R_only HN5.out O HQ.out.2)
 have HQ6 := Aside0.mk (pBind_eq HQ5.out hp)
 clear hg hp O S1 b1 HK5 HN5 HQ5
 refine .inl ⟨_, rfl, ?_⟩
 refine hK.out _ _ HK6.out.rb (fun _ => ?_)
 clear hK K
 refine norm_ (a' := ?_) ?_ ?_
 rotate_left
 ·show Act.put _ (some 73) _ = _
  simp only [Act.put, List.setIfInBounds_toArray, List.set_cons_zero, List.set_cons_succ, i64_w, i32_w]
  rfl
 have HS0 := HK6
 have HM0 := HN6
 clear HK6 HN6
 have HPE := Aside0.mk (HPD.out.trans (imgP4_ok HQ6.out))
 clear HQ6 HPD
 generalize u6 = t0 at *
 refine last_ (i := 13) (N := none) #[true, true, true, true, true, true, true, true, true, true, true, true, true, true, false, false, false, false, false, false, false, false, false, false] rfl rfl (by kernel_rfl) (by decide) (fun K hK => ?_)
 have cc : t0.cell? ⟨w.heap.size, 0, none⟩ = some (.int .i64 0) := HS0.out.dr.b2.at 0 _ rfl
 have ff := HS0.out.dr.b2.fr 0
 go_simp
 refine hK.out _ _ ?_
 clear hK K cc ff
 have HS1 := Aside0.mk (show DSt w (t0.setCell ⟨w.heap.size, 0, none⟩ (.int .i64 x0)) base1 B1 g4 #[.int .i64 x0, .int .i64 0, .slice none 0 0, .slice none 0 0, .slice none 0 0, .slice none 0 0, .slice none 0 0, .slice none 0 0, .slice none 0 0, .int .i64 0, .int .i64 0, .int .i64 0, .int .i64 0] r6 from HS0.out.cell 0 _)
 have HM1 := Aside0.mk (R_cellg HM0.out HS0.out.dr HQ.out.1 0 (.int .i64 x0))
 clear HS0 HM0
 generalize t0.setCell ⟨w.heap.size, 0, none⟩ (.int .i64 x0) = t1 at *
 refine pure_ (i := 14) (N := some 75) (v := ?_) (a' := ?_) #[true, true, true, true, true, true, true, true, true, true, true, true, true, true, true, false, false, false, false, false, false, false, false, false] rfl rfl (by kernel_rfl) (fun _ _ _ h => quiet (N := 75) (by decide) h) (Or.inl ⟨by rfl, ?_⟩) ?_ ?_
 rotate_left
 ·intro w_
  go_simp
  with_reducible rfl
 rotate_left
 ·simp only [Act.put, List.setIfInBounds_toArray, List.set_cons_zero, List.set_cons_succ, i64_w, i32_w]
  rfl
 refine last_ (i := 15) (N := none) #[true, true, true, true, true, true, true, true, true, true, true, true, true, true, true, true, false, false, false, false, false, false, false, false] rfl rfl (by kernel_rfl) (by decide) (fun K hK => ?_)
 have cc : t1.cell? ⟨w.heap.size, 1, none⟩ = some (.int .i64 0) := HS1.out.dr.b2.at 1 _ rfl
 have ff := HS1.out.dr.b2.fr 1
 go_simp
 refine hK.out _ _ ?_
 clear hK K cc ff
 have HS2 := Aside0.mk (show DSt w (t1.setCell ⟨w.heap.size, 1, none⟩ (.int .i64 x1)) base1 B1 g4 #[.int .i64 x0, .int .i64 x1, .slice none 0 0, .slice none 0 0, .slice none 0 0, .slice none 0 0, .slice none 0 0, .slice none 0 0, .slice none 0 0, .int .i64 0, .int .i64 0, .int .i64 0, .int .i64 0] r6 from HS1.out.cell 1 _)
 have HM2 := Aside0.mk (R_cellg HM1.out HS1.out.dr HQ.out.1 1 (.int .i64 x1))
 clear HS1 HM1
 generalize t1.setCell ⟨w.heap.size, 1, none⟩ (.int .i64 x1) = t2 at *
 refine pure_ (i := 16) (N := some 76) (v := ?_) (a' := ?_) #[true, true, true, true, true, true, true, true, true, true, true, true, true, true, true, true, true, false, false, false, false, false, false, false] rfl rfl (by kernel_rfl) (fun _ _ _ h => quiet (N := 76) (by decide) h) (Or.inl ⟨by rfl, ?_⟩) ?_ ?_
 rotate_left
 ·intro w_
  go_simp
  with_reducible rfl
 rotate_left
 ·simp only [Act.put, List.setIfInBounds_toArray, List.set_cons_zero, List.set_cons_succ, i64_w, i32_w]
  rfl
 refine last_ (i := 17) (N := none) #[true, true, true, true, true, true, true, true, true, true, true, true, true, true, true, true, true, true, false, false, false, false, false, false] rfl rfl (by kernel_rfl) (by decide) (fun K hK => ?_)
 have cc : t2.cell? ⟨w.heap.size, 9, none⟩ = some (.int .i64 0) := HS2.out.dr.b2.at 9 _ rfl
 have ff := HS2.out.dr.b2.fr 9
 go_simp
 refine hK.out _ _ ?_
 clear hK K cc ff
 have HS3 := Aside0.mk (show DSt w (t2.setCell ⟨w.heap.size, 9, none⟩ (.int .i64 x2)) base1 B1 g4 #[.int .i64 x0, .int .i64 x1, .slice none 0 0, .slice none 0 0, .slice none 0 0, .slice none 0 0, .slice none 0 0, .slice none 0 0, .slice none 0 0, .int .i64 x2, .int .i64 0, .int .i64 0, .int .i64 0] r6 from HS2.out.cell 9 _)
 have HM3 := Aside0.mk (R_cellg HM2.out HS2.out.dr HQ.out.1 9 (.int .i64 x2))
 clear HS2 HM2
 generalize t2.setCell ⟨w.heap.size, 9, none⟩ (.int .i64 x2) = t3 at *
 refine pure_ (i := 18) (N := some 77) (v := ?_) (a' := ?_) #[true, true, true, true, true, true, true, true, true, true, true, true, true, true, true, true, true, true, true, false, false, false, false, false] rfl rfl (by kernel_rfl) (fun _ _ _ h => quiet (N := 77) (by decide) h) (Or.inl ⟨by rfl, ?_⟩) ?_ ?_
 rotate_left
 ·intro w_
  go_simp
  with_reducible rfl
 rotate_left
 ·simp only [Act.put, List.setIfInBounds_toArray, List.set_cons_zero, List.set_cons_succ, i64_w, i32_w]
  rfl
 refine last_ (i := 19) (N := none) #[true, true, true, true, true, true, true, true, true, true, true, true, true, true, true, true, true, true, true, true, false, false, false, false] rfl rfl (by kernel_rfl) (by decide) (fun K hK => ?_)
 have cc : t3.cell? ⟨w.heap.size, 10, none⟩ = some (.int .i64 0) := HS3.out.dr.b2.at 10 _ rfl
 have ff := HS3.out.dr.b2.fr 10
 go_simp
 refine hK.out _ _ ?_
 clear hK K cc ff
 have HS4 := Aside0.mk (show DSt w (t3.setCell ⟨w.heap.size, 10, none⟩ (.int .i64 x3)) base1 B1 g4 #[.int .i64 x0, .int .i64 x1, .slice none 0 0, .slice none 0 0, .slice none 0 0, .slice none 0 0, .slice none 0 0, .slice none 0 0, .slice none 0 0, .int .i64 x2, .int .i64 x3, .int .i64 0, .int .i64 0] r6 from HS3.out.cell 10 _)
 have HM4 := Aside0.mk (R_cellg HM3.out HS3.out.dr HQ.out.1 10 (.int .i64 x3))
 clear HS3 HM3
 generalize t3.setCell ⟨w.heap.size, 10, none⟩ (.int .i64 x3) = t4 at *
 refine pure_ (i := 20) (N := some 78) (v := ?_) (a' := ?_) #[true, true, true, true, true, true, true, true, true, true, true, true, true, true, true, true, true, true, true, true, true, false, false, false] rfl rfl (by kernel_rfl) (fun _ _ _ h => quiet (N := 78) (by decide) h) (Or.inl ⟨by rfl, ?_⟩) ?_ ?_
 rotate_left
 ·intro w_
  go_simp
  with_reducible rfl
 rotate_left
 ·simp only [Act.put, List.setIfInBounds_toArray, List.set_cons_zero, List.set_cons_succ, i64_w, i32_w]
  rfl
 refine last_ (i := 21) (N := none) #[true, true, true, true, true, true, true, true, true, true, true, true, true, true, true, true, true, true, true, true, true, true, false, false] rfl rfl (by kernel_rfl) (by decide) (fun K hK => ?_)
 have cc : t4.cell? ⟨w.heap.size, 11, none⟩ = some (.int .i64 0) := HS4.out.dr.b2.at 11 _ rfl
 have ff := HS4.out.dr.b2.fr 11
 go_simp
 refine hK.out _ _ ?_
 clear hK K cc ff
 have HS5 := Aside0.mk (show DSt w (t4.setCell ⟨w.heap.size, 11, none⟩ (.int .i64 x4)) base1 B1 g4 #[.int .i64 x0, .int .i64 x1, .slice none 0 0, .slice none 0 0, .slice none 0 0, .slice none 0 0, .slice none 0 0, .slice none 0 0, .slice none 0 0, .int .i64 x2, .int .i64 x3, .int .i64 x4, .int .i64 0] r6 from HS4.out.cell 11 _)
 have HM5 := Aside0.mk (R_cellg HM4.out HS4.out.dr HQ.out.1 11 (.int .i64 x4))
 clear HS4 HM4
 generalize t4.setCell ⟨w.heap.size, 11, none⟩ (.int .i64 x4) = t5 at *
 refine pure_ (i := 22) (N := some 79) (v := ?_) (a' := ?_) #[true, true, true, true, true, true, true, true, true, true, true, true, true, true, true, true, true, true, true, true, true, true, true, false] rfl rfl (by kernel_rfl) (fun _ _ _ h => quiet (N := 79) (by decide) h) (Or.inl ⟨by rfl, ?_⟩) ?_ ?_
 rotate_left
 ·intro w_
  go_simp
  with_reducible rfl
 rotate_left
 ·simp only [Act.put, List.setIfInBounds_toArray, List.set_cons_zero, List.set_cons_succ, i64_w, i32_w]
  rfl
 refine last_ (i := 23) (N := none) #[true, true, true, true, true, true, true, true, true, true, true, true, true, true, true, true, true, true, true, true, true, true, true, true] rfl rfl (by kernel_rfl) (by decide) (fun K hK => ?_)
 have cc : t5.cell? ⟨w.heap.size, 12, none⟩ = some (.int .i64 0) := HS5.out.dr.b2.at 12 _ rfl
 have ff := HS5.out.dr.b2.fr 12
 go_simp
 refine hK.out _ _ ?_
 clear hK K cc ff
 have HS6 := Aside0.mk (show DSt w (t5.setCell ⟨w.heap.size, 12, none⟩ (.int .i64 x5)) base1 B1 g4 #[.int .i64 x0, .int .i64 x1, .slice none 0 0, .slice none 0 0, .slice none 0 0, .slice none 0 0, .slice none 0 0, .slice none 0 0, .slice none 0 0, .int .i64 x2, .int .i64 x3, .int .i64 x4, .int .i64 x5] r6 from HS5.out.cell 12 _)
 have HM6 := Aside0.mk (R_cellg HM5.out HS5.out.dr HQ.out.1 12 (.int .i64 x5))
 clear HS5 HM5
 generalize t5.setCell ⟨w.heap.size, 12, none⟩ (.int .i64 x5) = t6 at *
 refine done_ (by kernel_rfl) ?_
 go_upto_region 15 with fail
 obtain ⟨l4, hl4⟩ : ∃ l, l = (b.take n).drop 28 := ⟨_, rfl⟩
 rw [← hl4] at HPE
 obtain ⟨A4, c4, hs4, hr4, hf4⟩ := cut_b HC.out HCC.out 28 n (by have := HN2.out; have := H30.out; omega) (by have := HN2.out; omega)
 rw [← hl4] at hs4 hr4 hf4
 replace hs4 : ∀ W, (Instr.slice 34 (.slice A b.length c) (some (.int .i64 28)) (some (.int .i64 n)) none).run Try.prog W = .ok (.slice A4 l4.length c4) W := hs4
 have HL4 := Aside0.mk hl4
 have HR4 := Aside0.mk (hr4 _ HS6.out.dr.low)
 have HF4 := Aside0.mk hf4
 clear hl4 hr4 hf4
 go_wp2_with fail
 refine (newReader_calls A4 c4 l4 t6 HR4.out HF4.out (by rw [HL4.out, List.length_drop, List.length_take]; have := HN32.out; omega)).mono ?_
 rintro e y1 ⟨B9, rfl, S9, hb9⟩
 have HD9 := Aside0.mk (HS6.out.dr.below hb9)
 have HN9 := Aside0.mk (Kd.R_below HM6.out hb9)
 have HS9 := Aside0.mk S9
 have HG9 := Aside0.mk (show w.heap.size + 2 ≤ B9 from by have := S9.ge; have := HS6.out.dr.lt; omega)
 have HBY4 := Aside0.mk (show ∀ x ∈ l4, 0 ≤ x ∧ x ≤ 255 from by rw [HL4.out]; exact fun x hx => HBY.out x (List.mem_of_mem_take (List.mem_of_mem_drop hx)))
 clear S9 hb9 hs4 HR4 HF4 HS6 HM6
 generalize t6.heap.size = base9 at *
 go_upto_region 16 with fail
 have HBa := Aside0.mk (below_a y1 (.cells #[.pointer (some ⟨B9, 0, none⟩)] 78))
 have HE := Aside0.mk (show DSt w (y1.alloc (.cells #[.pointer (some ⟨B9, 0, none⟩)] 78)) base9 B9 y1.heap.size _ l4 from ⟨HD9.out.below HBa.out, HS9.out.below HBa.out, HBY4.out, heap_alloc_new y1 _, HG9.out, by have := HD9.out.lt; omega⟩)
 replace HN9 := Aside0.mk (Kd.R_below HN9.out HBa.out)
 clear HBa HD9 HS9
 generalize y1.heap.size = g9 at *
 generalize y1.alloc (.cells #[.pointer (some ⟨B9, 0, none⟩)] 78) = e0 at *
 have HLO := Aside0.mk (show B9 < e0.heap.size ∧ w.heap.size < e0.heap.size from ⟨rd_lt HE.out.st, by have := HE.out.dr.lt; omega⟩)
 obtain ⟨lo, hlo⟩ : ∃ lo, lo = e0.heap.size := ⟨_, rfl⟩
 rw [← hlo] at HLO
 have HZ0 := Aside0.mk (show lo ≤ e0.heap.size from by omega)
 clear hlo
 obtain ⟨n0, n1, n2, n3, n4, n5, n6, hns⟩ := seven HN7.out
 subst hns
 have hnb := HNB.out
 simp only [List.mem_cons, List.not_mem_nil, or_false, forall_eq_or_imp, forall_eq] at hnb
 obtain ⟨⟨a0, b0⟩, ⟨a1, b1⟩, ⟨a2, b2⟩, ⟨a3, b3⟩, ⟨a4, b4⟩, ⟨a5, b5⟩, ⟨a6, b6⟩⟩ := hnb
 obtain ⟨m0, rfl⟩ := Int.eq_ofNat_of_zero_le a0
 obtain ⟨m1, rfl⟩ := Int.eq_ofNat_of_zero_le a1
 obtain ⟨m2, rfl⟩ := Int.eq_ofNat_of_zero_le a2
 obtain ⟨m3, rfl⟩ := Int.eq_ofNat_of_zero_le a3
 obtain ⟨m4, rfl⟩ := Int.eq_ofNat_of_zero_le a4
 obtain ⟨m5, rfl⟩ := Int.eq_ofNat_of_zero_le a5
 obtain ⟨m6, rfl⟩ := Int.eq_ofNat_of_zero_le a6
 have HMB := Aside0.mk (show m0 ≤ 65535 ∧ m1 ≤ 65535 ∧ m2 ≤ 65535 ∧ m3 ≤ 65535 ∧ m4 ≤ 65535 ∧ m5 ≤ 65535 ∧ m6 ≤ 65535 from by omega)
 clear a0 a1 a2 a3 a4 a5 a6 b0 b1 b2 b3 b4 b5 b6 HNB HN7
 have HW0 := Aside0.mk (show pRows ⟨b.length, [(m0 : Int), (m1 : Int), (m2 : Int), (m3 : Int), (m4 : Int), (m5 : Int), (m6 : Int)], x0, x1, x2, x3, x4, x5⟩ l4 = (pBind (pReps pTask m0) fun t2 => pBind (pReps pRing m1) fun t3 => pBind (pReps pRes m2) fun t4 => pBind (pReps pCtr m3) fun t5 => pBind (pReps pAlm m4) fun t6 => pBind (pReps pIsr m5) fun t7 => pBind (pReps pMsg m6) fun t8 => pRet (⟨x0, x1, t2, t3, t4, t5, t6, t7, t8, x2, x3, x4, x5⟩ : S33)) l4 from rfl)
 obtain ⟨ad, had, _, _⟩ := row_cells HN9.out (by simp)
 subst had
 have HE0 := HE
 clear HE
 have hcell : e0.cell? ad = some (.int .i64 (m0 : Int)) := by
  obtain ⟨ad', e1, _, h⟩ := row_cells HN9.out (by simp)
  injection e1 with e1
  subst e1
  rw [← add0 ad]
  exact h 0 (by simp)
 have HCL := Aside0.mk hcell
 clear hcell
 refine start_ (n := 8) (S := fun w_ => RBox w_ g9 B9 ∧ w_.cell? ad = some (.int .i64 (m0 : Int))) (ds := [7]) #[false, false, false, false, false, false, false, false] (by kernel_rfl) rfl rfl ⟨HE0.out.rb.below (drew_below e0), HCL.out⟩ (fun hHeld => ?_)
 have HHC := Aside0.mk hHeld
 clear hHeld HCL
 have HDB := Aside0.mk (drew_below e0)
 have HZ0' := Aside0.mk (Nat.le_trans HZ0.out HDB.out.size)
 replace HE0 := Aside0.mk (HE0.out.below HDB.out)
 replace HN9 := Aside0.mk (Kd.R_below HN9.out HDB.out)
 clear HDB HZ0
 have HZ0 := HZ0'
 clear HZ0'
 generalize e0.drew = e1 at *
 refine pure_ (i := 0) (N := some 85) (v := ?_) (a' := ?_) #[true, false, false, false, false, false, false, false] rfl rfl (by kernel_rfl) (fun _ _ _ h => quiet (N := 85) (by decide) h) (Or.inl ⟨by rfl, ?_⟩) ?_ ?_
 rotate_left
 ·intro w_
  go_simp
  with_reducible rfl
 rotate_left
 ·simp only [Act.put, List.setIfInBounds_toArray, List.set_cons_zero, List.set_cons_succ, i64_w, i32_w]
  rfl
 refine pure_ (i := 1) (N := some 86) (v := ?_) (a' := ?_) #[true, true, false, false, false, false, false, false] rfl rfl (by kernel_rfl) (fun _ _ _ h => quiet (N := 86) (by decide) h) (Or.inl ⟨by rfl, ?_⟩) ?_ ?_
 rotate_left
 ·intro w_
  go_simp
  with_reducible rfl
 rotate_left
 ·simp only [Act.put, List.setIfInBounds_toArray, List.set_cons_zero, List.set_cons_succ, i64_w, i32_w]
  rfl
 refine take_ (i := 2) (N := some 87) (v := .int .i64 (m0 : Int)) (a' := ?_) #[true, true, true, false, false, false, false, false] rfl rfl (by kernel_rfl) (fun _ _ _ h => quiet (N := 87) (by decide) h) (Or.inl ⟨by rfl, ?_⟩) HHC.out ?_ ?_
 ·rintro w_ ⟨s1, s2⟩
  go_simp
 rotate_left
 ·simp only [Act.put, List.setIfInBounds_toArray, List.set_cons_zero, List.set_cons_succ, i64_w, i32_w]
  rfl
 refine take_ (i := 3) (N := some 88) (v := ?_) (a' := ?_) #[true, true, true, true, false, false, false, false] rfl rfl (by kernel_rfl) (fun _ _ _ h => quiet (N := 88) (by decide) h) (Or.inl ⟨by rfl, ?_⟩) HHC.out ?_ ?_
 rotate_left
 ·rintro w_ ⟨s1, s2⟩
  refine run78 s1 (.tmp 9) ?_ ?_ <;> rfl
 rotate_left
 ·simp only [Act.put, List.setIfInBounds_toArray, List.set_cons_zero, List.set_cons_succ, i64_w, i32_w]
  rfl
 refine pure_ (i := 4) (N := some 89) (v := ?_) (a' := ?_) #[true, true, true, true, true, false, false, false] rfl rfl (by kernel_rfl) (fun _ _ _ h => quiet (N := 89) (by decide) h) (Or.inl ⟨by rfl, ?_⟩) ?_ ?_
 rotate_left
 ·intro w_
  go_simp
  with_reducible rfl
 rotate_left
 ·simp only [Act.put, List.setIfInBounds_toArray, List.set_cons_zero, List.set_cons_succ, i64_w, i32_w]
  rfl
 refine one_ (i := 5) (N := some 90) #[true, true, true, true, true, true, false, false] rfl rfl (by kernel_rfl) (by decide) (fun K hK => ?_)
 refine goes2_ Try.func36 (by kernel_rfl) rfl #[.int .i64 m0, .func (.func 37) #[.agg #[.pointer (some ⟨B9, 0, none⟩)]] #[]] (by rfl) rfl rfl (by first | rfl | (simp only [List.map_toArray, List.map_cons, List.map_nil]; rfl) | simp) ?_
 refine (taken_69 B9 base9 g9 m0 l4 e1 HE0.out.st HE0.out.bd HE0.out.rb (by have := HMB.out; omega)).mono ?_
 rintro e y2 hg
 rcases hp : pReps pTask m0 l4 with c | ⟨k2, s1⟩
 ·obtain ⟨O, rfl⟩ := hg.no hp
  exact .inr ⟨_, rfl, door_no (HPE.out.trans (imgP5_no (pBind_bad HW0.out hp))) (HE0.out.dr.only O HE0.out.hB) rfl rfl⟩
 obtain ⟨O, v, rfl, hV, S1, b1⟩ := hg.yes hp
 obtain ⟨A2', k2', hv2⟩ : ∃ A c, v = .slice A k2.length c := Kd.R_slice hV
 subst hv2
 have HV2' := Aside0.mk (Kd.R_lower hV HZ0.out)
 have HE1 := Aside0.mk (HE0.out.go O S1 b1)
 have HN10 := Aside0.mk (R_other HN9.out O HE0.out.st)
 have HW1 := Aside0.mk (pBind_eq HW0.out hp)
 have HLK2 := Aside0.mk (reps_n _ _ _ _ hp)
 have HZ1 := Aside0.mk (Nat.le_trans HZ0.out O.size)
 have HH1 := Aside0.mk (show RBox y2 g9 B9 ∧ y2.cell? ad = some (.int .i64 (m0 : Int)) from ⟨HE1.out.rb, by
  obtain ⟨ad', e1, _, h⟩ := row_cells HN10.out (by simp)
  injection e1 with e1
  subst e1
  rw [← add0 ad]
  exact h 0 (by simp)⟩)
 clear hg hp O S1 b1 hV HE0 HN9 HW0 HZ0 HHC
 refine .inl ⟨_, rfl, ?_⟩
 refine hK.out _ _ HH1.out (fun _ => ?_)
 clear hK K HH1
 refine norm_ (a' := ?_) ?_ ?_
 rotate_left
 ·show Act.put _ (some 90) _ = _
  simp only [Act.put, List.setIfInBounds_toArray, List.set_cons_zero, List.set_cons_succ, i64_w, i32_w]
  rfl
 refine pure_ (i := 6) (N := some 91) (v := ?_) (a' := ?_) #[true, true, true, true, true, true, true, false] rfl rfl (by kernel_rfl) (fun _ _ _ h => quiet (N := 91) (by decide) h) (Or.inl ⟨by rfl, ?_⟩) ?_ ?_
 rotate_left
 ·intro w_
  go_simp
  with_reducible rfl
 rotate_left
 ·simp only [Act.put, List.setIfInBounds_toArray, List.set_cons_zero, List.set_cons_succ, i64_w, i32_w]
  rfl
 refine last_ (i := 7) (N := none) #[true, true, true, true, true, true, true, true] rfl rfl (by kernel_rfl) (by decide) (fun K hK => ?_)
 have cc : y2.cell? ⟨w.heap.size, 2, none⟩ = some (.slice none 0 0) := HE1.out.dr.b2.at 2 _ rfl
 have ff := HE1.out.dr.b2.fr 2
 go_simp
 refine hK.out _ _ ?_
 clear hK K cc ff
 have HX1 := Aside0.mk (show DSt w (y2.setCell ⟨w.heap.size, 2, none⟩ (.slice A2' k2.length k2')) base9 B9 g9 #[.int .i64 x0, .int .i64 x1, .slice A2' k2.length k2', .slice none 0 0, .slice none 0 0, .slice none 0 0, .slice none 0 0, .slice none 0 0, .slice none 0 0, .int .i64 x2, .int .i64 x3, .int .i64 x4, .int .i64 x5] s1 from HE1.out.cell 2 _)
 replace HN10 := Aside0.mk (R_cellg HN10.out HE1.out.dr HQ.out.1 2 (.slice A2' k2.length k2'))
 replace HV2' := Aside0.mk (R_cellg HV2'.out HE1.out.dr HLO.out.2 2 (.slice A2' k2.length k2'))
 replace HZ1 := Aside0.mk (show lo ≤ (y2.setCell ⟨w.heap.size, 2, none⟩ (.slice A2' k2.length k2')).heap.size from by rw [setCell_eq_setRow y2 w.heap.size 2 _ 33 (0, 0) _ HE1.out.dr.b2, setRow_size]; exact HZ1.out)
 clear HE1
 generalize y2.setCell ⟨w.heap.size, 2, none⟩ (.slice A2' k2.length k2') = f1 at *
 refine done_ (by kernel_rfl) ?_
 have hx : f1.cell? ⟨ad.block, ad.off + 1, none⟩ = some (.int .i64 (m1 : Int)) := by
  obtain ⟨ad', e1, _, h⟩ := row_cells HN10.out (by simp)
  injection e1 with e1
  subst e1
  have hh := h 1 (by simp)
  rw [show ad.add 1 = ⟨ad.block, ad.off + 1, none⟩ by simp [Addr.add]] at hh
  exact hh
 go_wp2_with fail
 refine (taken_88 B9 base9 g9 m1 s1 f1 HX1.out.st HX1.out.bd HX1.out.rb (by have := HMB.out; omega)).mono ?_
 rintro e y3 hg
 clear hx
 rcases hp : pReps pRing m1 s1 with c | ⟨k3, s2⟩
 ·obtain ⟨O, rfl⟩ := hg.no hp
  exact door_no (HPE.out.trans (imgP5_no (pBind_bad HW1.out hp))) (HX1.out.dr.only O HX1.out.hB) rfl rfl
 obtain ⟨O, v, rfl, hV, S1, b1⟩ := hg.yes hp
 obtain ⟨A3', k3', hv2⟩ : ∃ A c, v = .slice A k3.length c := Kd.R_slice hV
 subst hv2
 have HV3' := Aside0.mk (Kd.R_lower hV HZ1.out)
 have HE2 := Aside0.mk (HX1.out.go O S1 b1)
 have HN11 := Aside0.mk (R_other HN10.out O HX1.out.st)
 have HW2 := Aside0.mk (pBind_eq HW1.out hp)
 have HLK3 := Aside0.mk (reps_n _ _ _ _ hp)
 have HZ2 := Aside0.mk (Nat.le_trans HZ1.out O.size)
 replace HV2' := Aside0.mk (R_only HV2'.out O HLO.out.1)
 clear hg hp O S1 b1 hV HX1 HN10 HW1 HZ1
 have cc : y3.cell? ⟨w.heap.size, 3, none⟩ = some (.slice none 0 0) := HE2.out.dr.b2.at 3 _ rfl
 have ff := HE2.out.dr.b2.fr 3
 go_upto_region 18 with fail
 clear cc ff
 have HX2 := Aside0.mk (show DSt w (y3.setCell ⟨w.heap.size, 3, none⟩ (.slice A3' k3.length k3')) base9 B9 g9 #[.int .i64 x0, .int .i64 x1, .slice A2' k2.length k2', .slice A3' k3.length k3', .slice none 0 0, .slice none 0 0, .slice none 0 0, .slice none 0 0, .slice none 0 0, .int .i64 x2, .int .i64 x3, .int .i64 x4, .int .i64 x5] s2 from HE2.out.cell 3 _)
 replace HN11 := Aside0.mk (R_cellg HN11.out HE2.out.dr HQ.out.1 3 (.slice A3' k3.length k3'))
 replace HZ2 := Aside0.mk (show lo ≤ (y3.setCell ⟨w.heap.size, 3, none⟩ (.slice A3' k3.length k3')).heap.size from by rw [setCell_eq_setRow y3 w.heap.size 3 _ 33 (0, 0) _ HE2.out.dr.b2, setRow_size]; exact HZ2.out)
 replace HV2' := Aside0.mk (R_cellg HV2'.out HE2.out.dr HLO.out.2 3 (.slice A3' k3.length k3'))
 replace HV3' := Aside0.mk (R_cellg HV3'.out HE2.out.dr HLO.out.2 3 (.slice A3' k3.length k3'))
 clear HE2
 generalize y3.setCell ⟨w.heap.size, 3, none⟩ (.slice A3' k3.length k3') = f2 at *
 have hx : f2.cell? ⟨ad.block, ad.off + 2, none⟩ = some (.int .i64 (m2 : Int)) := by
  obtain ⟨ad', e1, _, h⟩ := row_cells HN11.out (by simp)
  injection e1 with e1
  subst e1
  have hh := h 2 (by simp)
  rw [show ad.add 2 = ⟨ad.block, ad.off + 2, none⟩ by simp [Addr.add]] at hh
  exact hh
 go_wp2_with fail
 refine (taken_66 B9 base9 g9 m2 s2 f2 HX2.out.st HX2.out.bd HX2.out.rb (by have := HMB.out; omega)).mono ?_
 rintro e y4 hg
 clear hx
 rcases hp : pReps pRes m2 s2 with c | ⟨k4, s3⟩
 ·obtain ⟨O, rfl⟩ := hg.no hp
  exact door_no (HPE.out.trans (imgP5_no (pBind_bad HW2.out hp))) (HX2.out.dr.only O HX2.out.hB) rfl rfl
 obtain ⟨O, v, rfl, hV, S1, b1⟩ := hg.yes hp
 obtain ⟨A4', k4', hv2⟩ : ∃ A c, v = .slice A k4.length c := Kd.R_slice hV
 subst hv2
 have HV4' := Aside0.mk (Kd.R_lower hV HZ2.out)
 have HE3 := Aside0.mk (HX2.out.go O S1 b1)
 have HN12 := Aside0.mk (R_other HN11.out O HX2.out.st)
 have HW3 := Aside0.mk (pBind_eq HW2.out hp)
 have HLK4 := Aside0.mk (reps_n _ _ _ _ hp)
 have HZ3 := Aside0.mk (Nat.le_trans HZ2.out O.size)
 replace HV2' := Aside0.mk (R_only HV2'.out O HLO.out.1)
 replace HV3' := Aside0.mk (R_only HV3'.out O HLO.out.1)
 clear hg hp O S1 b1 hV HX2 HN11 HW2 HZ2
 have cc : y4.cell? ⟨w.heap.size, 4, none⟩ = some (.slice none 0 0) := HE3.out.dr.b2.at 4 _ rfl
 have ff := HE3.out.dr.b2.fr 4
 go_upto_region 19 with fail
 clear cc ff
 have HX3 := Aside0.mk (show DSt w (y4.setCell ⟨w.heap.size, 4, none⟩ (.slice A4' k4.length k4')) base9 B9 g9 #[.int .i64 x0, .int .i64 x1, .slice A2' k2.length k2', .slice A3' k3.length k3', .slice A4' k4.length k4', .slice none 0 0, .slice none 0 0, .slice none 0 0, .slice none 0 0, .int .i64 x2, .int .i64 x3, .int .i64 x4, .int .i64 x5] s3 from HE3.out.cell 4 _)
 replace HN12 := Aside0.mk (R_cellg HN12.out HE3.out.dr HQ.out.1 4 (.slice A4' k4.length k4'))
 replace HZ3 := Aside0.mk (show lo ≤ (y4.setCell ⟨w.heap.size, 4, none⟩ (.slice A4' k4.length k4')).heap.size from by rw [setCell_eq_setRow y4 w.heap.size 4 _ 33 (0, 0) _ HE3.out.dr.b2, setRow_size]; exact HZ3.out)
 replace HV2' := Aside0.mk (R_cellg HV2'.out HE3.out.dr HLO.out.2 4 (.slice A4' k4.length k4'))
 replace HV3' := Aside0.mk (R_cellg HV3'.out HE3.out.dr HLO.out.2 4 (.slice A4' k4.length k4'))
 replace HV4' := Aside0.mk (R_cellg HV4'.out HE3.out.dr HLO.out.2 4 (.slice A4' k4.length k4'))
 clear HE3
 generalize y4.setCell ⟨w.heap.size, 4, none⟩ (.slice A4' k4.length k4') = f3 at *
 have hx : f3.cell? ⟨ad.block, ad.off + 3, none⟩ = some (.int .i64 (m3 : Int)) := by
  obtain ⟨ad', e1, _, h⟩ := row_cells HN12.out (by simp)
  injection e1 with e1
  subst e1
  have hh := h 3 (by simp)
  rw [show ad.add 3 = ⟨ad.block, ad.off + 3, none⟩ by simp [Addr.add]] at hh
  exact hh
 go_wp2_with fail
 refine (taken_95 B9 base9 g9 m3 s3 f3 HX3.out.st HX3.out.bd HX3.out.rb (by have := HMB.out; omega)).mono ?_
 rintro e y5 hg
 clear hx
 rcases hp : pReps pCtr m3 s3 with c | ⟨k5, s4⟩
 ·obtain ⟨O, rfl⟩ := hg.no hp
  exact door_no (HPE.out.trans (imgP5_no (pBind_bad HW3.out hp))) (HX3.out.dr.only O HX3.out.hB) rfl rfl
 obtain ⟨O, v, rfl, hV, S1, b1⟩ := hg.yes hp
 obtain ⟨A5', k5', hv2⟩ : ∃ A c, v = .slice A k5.length c := Kd.R_slice hV
 subst hv2
 have HV5' := Aside0.mk (Kd.R_lower hV HZ3.out)
 have HE4 := Aside0.mk (HX3.out.go O S1 b1)
 have HN13 := Aside0.mk (R_other HN12.out O HX3.out.st)
 have HW4 := Aside0.mk (pBind_eq HW3.out hp)
 have HLK5 := Aside0.mk (reps_n _ _ _ _ hp)
 have HZ4 := Aside0.mk (Nat.le_trans HZ3.out O.size)
 replace HV2' := Aside0.mk (R_only HV2'.out O HLO.out.1)
 replace HV3' := Aside0.mk (R_only HV3'.out O HLO.out.1)
 replace HV4' := Aside0.mk (R_only HV4'.out O HLO.out.1)
 clear hg hp O S1 b1 hV HX3 HN12 HW3 HZ3
 have cc : y5.cell? ⟨w.heap.size, 5, none⟩ = some (.slice none 0 0) := HE4.out.dr.b2.at 5 _ rfl
 have ff := HE4.out.dr.b2.fr 5
 go_upto_region 20 with fail
 clear cc ff
 have HX4 := Aside0.mk (show DSt w (y5.setCell ⟨w.heap.size, 5, none⟩ (.slice A5' k5.length k5')) base9 B9 g9 #[.int .i64 x0, .int .i64 x1, .slice A2' k2.length k2', .slice A3' k3.length k3', .slice A4' k4.length k4', .slice A5' k5.length k5', .slice none 0 0, .slice none 0 0, .slice none 0 0, .int .i64 x2, .int .i64 x3, .int .i64 x4, .int .i64 x5] s4 from HE4.out.cell 5 _)
 replace HN13 := Aside0.mk (R_cellg HN13.out HE4.out.dr HQ.out.1 5 (.slice A5' k5.length k5'))
 replace HZ4 := Aside0.mk (show lo ≤ (y5.setCell ⟨w.heap.size, 5, none⟩ (.slice A5' k5.length k5')).heap.size from by rw [setCell_eq_setRow y5 w.heap.size 5 _ 33 (0, 0) _ HE4.out.dr.b2, setRow_size]; exact HZ4.out)
 replace HV2' := Aside0.mk (R_cellg HV2'.out HE4.out.dr HLO.out.2 5 (.slice A5' k5.length k5'))
 replace HV3' := Aside0.mk (R_cellg HV3'.out HE4.out.dr HLO.out.2 5 (.slice A5' k5.length k5'))
 replace HV4' := Aside0.mk (R_cellg HV4'.out HE4.out.dr HLO.out.2 5 (.slice A5' k5.length k5'))
 replace HV5' := Aside0.mk (R_cellg HV5'.out HE4.out.dr HLO.out.2 5 (.slice A5' k5.length k5'))
 clear HE4
 generalize y5.setCell ⟨w.heap.size, 5, none⟩ (.slice A5' k5.length k5') = f4 at *
 have hx : f4.cell? ⟨ad.block, ad.off + 4, none⟩ = some (.int .i64 (m4 : Int)) := by
  obtain ⟨ad', e1, _, h⟩ := row_cells HN13.out (by simp)
  injection e1 with e1
  subst e1
  have hh := h 4 (by simp)
  rw [show ad.add 4 = ⟨ad.block, ad.off + 4, none⟩ by simp [Addr.add]] at hh
  exact hh
 go_wp2_with fail
 refine (taken_102 B9 base9 g9 m4 s4 f4 HX4.out.st HX4.out.bd HX4.out.rb (by have := HMB.out; omega)).mono ?_
 rintro e y6 hg
 clear hx
 rcases hp : pReps pAlm m4 s4 with c | ⟨k6, s5⟩
 ·obtain ⟨O, rfl⟩ := hg.no hp
  exact door_no (HPE.out.trans (imgP5_no (pBind_bad HW4.out hp))) (HX4.out.dr.only O HX4.out.hB) rfl rfl
 obtain ⟨O, v, rfl, hV, S1, b1⟩ := hg.yes hp
 obtain ⟨A6', k6', hv2⟩ : ∃ A c, v = .slice A k6.length c := Kd.R_slice hV
 subst hv2
 have HV6' := Aside0.mk (Kd.R_lower hV HZ4.out)
 have HE5 := Aside0.mk (HX4.out.go O S1 b1)
 have HN14 := Aside0.mk (R_other HN13.out O HX4.out.st)
 have HW5 := Aside0.mk (pBind_eq HW4.out hp)
 have HLK6 := Aside0.mk (reps_n _ _ _ _ hp)
 have HZ5 := Aside0.mk (Nat.le_trans HZ4.out O.size)
 replace HV2' := Aside0.mk (R_only HV2'.out O HLO.out.1)
 replace HV3' := Aside0.mk (R_only HV3'.out O HLO.out.1)
 replace HV4' := Aside0.mk (R_only HV4'.out O HLO.out.1)
 replace HV5' := Aside0.mk (R_only HV5'.out O HLO.out.1)
 clear hg hp O S1 b1 hV HX4 HN13 HW4 HZ4
 have cc : y6.cell? ⟨w.heap.size, 6, none⟩ = some (.slice none 0 0) := HE5.out.dr.b2.at 6 _ rfl
 have ff := HE5.out.dr.b2.fr 6
 go_upto_region 21 with fail
 clear cc ff
 have HX5 := Aside0.mk (show DSt w (y6.setCell ⟨w.heap.size, 6, none⟩ (.slice A6' k6.length k6')) base9 B9 g9 #[.int .i64 x0, .int .i64 x1, .slice A2' k2.length k2', .slice A3' k3.length k3', .slice A4' k4.length k4', .slice A5' k5.length k5', .slice A6' k6.length k6', .slice none 0 0, .slice none 0 0, .int .i64 x2, .int .i64 x3, .int .i64 x4, .int .i64 x5] s5 from HE5.out.cell 6 _)
 replace HN14 := Aside0.mk (R_cellg HN14.out HE5.out.dr HQ.out.1 6 (.slice A6' k6.length k6'))
 replace HZ5 := Aside0.mk (show lo ≤ (y6.setCell ⟨w.heap.size, 6, none⟩ (.slice A6' k6.length k6')).heap.size from by rw [setCell_eq_setRow y6 w.heap.size 6 _ 33 (0, 0) _ HE5.out.dr.b2, setRow_size]; exact HZ5.out)
 replace HV2' := Aside0.mk (R_cellg HV2'.out HE5.out.dr HLO.out.2 6 (.slice A6' k6.length k6'))
 replace HV3' := Aside0.mk (R_cellg HV3'.out HE5.out.dr HLO.out.2 6 (.slice A6' k6.length k6'))
 replace HV4' := Aside0.mk (R_cellg HV4'.out HE5.out.dr HLO.out.2 6 (.slice A6' k6.length k6'))
 replace HV5' := Aside0.mk (R_cellg HV5'.out HE5.out.dr HLO.out.2 6 (.slice A6' k6.length k6'))
 replace HV6' := Aside0.mk (R_cellg HV6'.out HE5.out.dr HLO.out.2 6 (.slice A6' k6.length k6'))
 clear HE5
 generalize y6.setCell ⟨w.heap.size, 6, none⟩ (.slice A6' k6.length k6') = f5 at *
 have hx : f5.cell? ⟨ad.block, ad.off + 5, none⟩ = some (.int .i64 (m5 : Int)) := by
  obtain ⟨ad', e1, _, h⟩ := row_cells HN14.out (by simp)
  injection e1 with e1
  subst e1
  have hh := h 5 (by simp)
  rw [show ad.add 5 = ⟨ad.block, ad.off + 5, none⟩ by simp [Addr.add]] at hh
  exact hh
 go_wp2_with fail
 refine (taken_107 B9 base9 g9 m5 s5 f5 HX5.out.st HX5.out.bd HX5.out.rb (by have := HMB.out; omega)).mono ?_
 rintro e y7 hg
 clear hx
 rcases hp : pReps pIsr m5 s5 with c | ⟨k7, s6⟩
 ·obtain ⟨O, rfl⟩ := hg.no hp
  exact door_no (HPE.out.trans (imgP5_no (pBind_bad HW5.out hp))) (HX5.out.dr.only O HX5.out.hB) rfl rfl
 obtain ⟨O, v, rfl, hV, S1, b1⟩ := hg.yes hp
 obtain ⟨A7', k7', hv2⟩ : ∃ A c, v = .slice A k7.length c := Kd.R_slice hV
 subst hv2
 have HV7' := Aside0.mk (Kd.R_lower hV HZ5.out)
 have HE6 := Aside0.mk (HX5.out.go O S1 b1)
 have HN15 := Aside0.mk (R_other HN14.out O HX5.out.st)
 have HW6 := Aside0.mk (pBind_eq HW5.out hp)
 have HLK7 := Aside0.mk (reps_n _ _ _ _ hp)
 have HZ6 := Aside0.mk (Nat.le_trans HZ5.out O.size)
 replace HV2' := Aside0.mk (R_only HV2'.out O HLO.out.1)
 replace HV3' := Aside0.mk (R_only HV3'.out O HLO.out.1)
 replace HV4' := Aside0.mk (R_only HV4'.out O HLO.out.1)
 replace HV5' := Aside0.mk (R_only HV5'.out O HLO.out.1)
 replace HV6' := Aside0.mk (R_only HV6'.out O HLO.out.1)
 clear hg hp O S1 b1 hV HX5 HN14 HW5 HZ5
 have cc : y7.cell? ⟨w.heap.size, 7, none⟩ = some (.slice none 0 0) := HE6.out.dr.b2.at 7 _ rfl
 have ff := HE6.out.dr.b2.fr 7
 go_upto_region 22 with fail
 clear cc ff
 have HX6 := Aside0.mk (show DSt w (y7.setCell ⟨w.heap.size, 7, none⟩ (.slice A7' k7.length k7')) base9 B9 g9 #[.int .i64 x0, .int .i64 x1, .slice A2' k2.length k2', .slice A3' k3.length k3', .slice A4' k4.length k4', .slice A5' k5.length k5', .slice A6' k6.length k6', .slice A7' k7.length k7', .slice none 0 0, .int .i64 x2, .int .i64 x3, .int .i64 x4, .int .i64 x5] s6 from HE6.out.cell 7 _)
 replace HN15 := Aside0.mk (R_cellg HN15.out HE6.out.dr HQ.out.1 7 (.slice A7' k7.length k7'))
 replace HZ6 := Aside0.mk (show lo ≤ (y7.setCell ⟨w.heap.size, 7, none⟩ (.slice A7' k7.length k7')).heap.size from by rw [setCell_eq_setRow y7 w.heap.size 7 _ 33 (0, 0) _ HE6.out.dr.b2, setRow_size]; exact HZ6.out)
 replace HV2' := Aside0.mk (R_cellg HV2'.out HE6.out.dr HLO.out.2 7 (.slice A7' k7.length k7'))
 replace HV3' := Aside0.mk (R_cellg HV3'.out HE6.out.dr HLO.out.2 7 (.slice A7' k7.length k7'))
 replace HV4' := Aside0.mk (R_cellg HV4'.out HE6.out.dr HLO.out.2 7 (.slice A7' k7.length k7'))
 replace HV5' := Aside0.mk (R_cellg HV5'.out HE6.out.dr HLO.out.2 7 (.slice A7' k7.length k7'))
 replace HV6' := Aside0.mk (R_cellg HV6'.out HE6.out.dr HLO.out.2 7 (.slice A7' k7.length k7'))
 replace HV7' := Aside0.mk (R_cellg HV7'.out HE6.out.dr HLO.out.2 7 (.slice A7' k7.length k7'))
 clear HE6
 generalize y7.setCell ⟨w.heap.size, 7, none⟩ (.slice A7' k7.length k7') = f6 at *
 have hx : f6.cell? ⟨ad.block, ad.off + 6, none⟩ = some (.int .i64 (m6 : Int)) := by
  obtain ⟨ad', e1, _, h⟩ := row_cells HN15.out (by simp)
  injection e1 with e1
  subst e1
  have hh := h 6 (by simp)
  rw [show ad.add 6 = ⟨ad.block, ad.off + 6, none⟩ by simp [Addr.add]] at hh
  exact hh
 go_wp2_with fail
 refine (taken_113 B9 base9 g9 m6 s6 f6 HX6.out.st HX6.out.bd HX6.out.rb (by have := HMB.out; omega)).mono ?_
 rintro e y8 hg
 clear hx
 rcases hp : pReps pMsg m6 s6 with c | ⟨k8, s7⟩
 ·obtain ⟨O, rfl⟩ := hg.no hp
  exact door_no (HPE.out.trans (imgP5_no (pBind_bad HW6.out hp))) (HX6.out.dr.only O HX6.out.hB) rfl rfl
 obtain ⟨O, v, rfl, hV, S1, b1⟩ := hg.yes hp
 obtain ⟨A8', k8', hv2⟩ : ∃ A c, v = .slice A k8.length c := Kd.R_slice hV
 subst hv2
 have HV8' := Aside0.mk (Kd.R_lower hV HZ6.out)
 have HE7 := Aside0.mk (HX6.out.go O S1 b1)
 have HN16 := Aside0.mk (R_other HN15.out O HX6.out.st)
 have HW7 := Aside0.mk (pBind_eq HW6.out hp)
 have HLK8 := Aside0.mk (reps_n _ _ _ _ hp)
 have HZ7 := Aside0.mk (Nat.le_trans HZ6.out O.size)
 replace HV2' := Aside0.mk (R_only HV2'.out O HLO.out.1)
 replace HV3' := Aside0.mk (R_only HV3'.out O HLO.out.1)
 replace HV4' := Aside0.mk (R_only HV4'.out O HLO.out.1)
 replace HV5' := Aside0.mk (R_only HV5'.out O HLO.out.1)
 replace HV6' := Aside0.mk (R_only HV6'.out O HLO.out.1)
 replace HV7' := Aside0.mk (R_only HV7'.out O HLO.out.1)
 clear hg hp O S1 b1 hV HX6 HN15 HW6 HZ6
 have cc : y8.cell? ⟨w.heap.size, 8, none⟩ = some (.slice none 0 0) := HE7.out.dr.b2.at 8 _ rfl
 have ff := HE7.out.dr.b2.fr 8
 go_upto_region 23 with fail
 clear cc ff
 have HX7 := Aside0.mk (show DSt w (y8.setCell ⟨w.heap.size, 8, none⟩ (.slice A8' k8.length k8')) base9 B9 g9 #[.int .i64 x0, .int .i64 x1, .slice A2' k2.length k2', .slice A3' k3.length k3', .slice A4' k4.length k4', .slice A5' k5.length k5', .slice A6' k6.length k6', .slice A7' k7.length k7', .slice A8' k8.length k8', .int .i64 x2, .int .i64 x3, .int .i64 x4, .int .i64 x5] s7 from HE7.out.cell 8 _)
 replace HN16 := Aside0.mk (R_cellg HN16.out HE7.out.dr HQ.out.1 8 (.slice A8' k8.length k8'))
 replace HZ7 := Aside0.mk (show lo ≤ (y8.setCell ⟨w.heap.size, 8, none⟩ (.slice A8' k8.length k8')).heap.size from by rw [setCell_eq_setRow y8 w.heap.size 8 _ 33 (0, 0) _ HE7.out.dr.b2, setRow_size]; exact HZ7.out)
 replace HV2' := Aside0.mk (R_cellg HV2'.out HE7.out.dr HLO.out.2 8 (.slice A8' k8.length k8'))
 replace HV3' := Aside0.mk (R_cellg HV3'.out HE7.out.dr HLO.out.2 8 (.slice A8' k8.length k8'))
 replace HV4' := Aside0.mk (R_cellg HV4'.out HE7.out.dr HLO.out.2 8 (.slice A8' k8.length k8'))
 replace HV5' := Aside0.mk (R_cellg HV5'.out HE7.out.dr HLO.out.2 8 (.slice A8' k8.length k8'))
 replace HV6' := Aside0.mk (R_cellg HV6'.out HE7.out.dr HLO.out.2 8 (.slice A8' k8.length k8'))
 replace HV7' := Aside0.mk (R_cellg HV7'.out HE7.out.dr HLO.out.2 8 (.slice A8' k8.length k8'))
 replace HV8' := Aside0.mk (R_cellg HV8'.out HE7.out.dr HLO.out.2 8 (.slice A8' k8.length k8'))
 clear HE7
 generalize y8.setCell ⟨w.heap.size, 8, none⟩ (.slice A8' k8.length k8') = f7 at *
 have HRW := Aside0.mk (show DecRows lo f7 (⟨A2', A3', A4', A5', A6', A7', A8', k2', k3', k4', k5', k6', k7', k8'⟩ : TV) (⟨x0, x1, k2, k3, k4, k5, k6, k7, k8, x2, x3, x4, x5⟩ : S33) from ⟨HV2'.out, HV3'.out, HV4'.out, HV5'.out, HV6'.out, HV7'.out, HV8'.out⟩)
 have HBD := Aside0.mk (show Bd (⟨x0, x1, k2, k3, k4, k5, k6, k7, k8, x2, x3, x4, x5⟩ : S33) from ⟨by show k2.length ≤ _; rw [HLK2.out]; have := HMB.out; omega, by show k3.length ≤ _; rw [HLK3.out]; have := HMB.out; omega, by show k4.length ≤ _; rw [HLK4.out]; have := HMB.out; omega, by show k5.length ≤ _; rw [HLK5.out]; have := HMB.out; omega, by show k6.length ≤ _; rw [HLK6.out]; have := HMB.out; omega, by show k7.length ≤ _; rw [HLK7.out]; have := HMB.out; omega, by show k8.length ≤ _; rw [HLK8.out]; have := HMB.out; omega⟩)
 have HPG := Aside0.mk (HPE.out.trans (imgP5_ok (t := (⟨x0, x1, k2, k3, k4, k5, k6, k7, k8, x2, x3, x4, x5⟩ : S33)) (r := s7) HW7.out))
 have HDR := Aside0.mk (show Dr w f7 (arr (⟨A2', A3', A4', A5', A6', A7', A8', k2', k3', k4', k5', k6', k7', k8'⟩ : TV) (⟨x0, x1, k2, k3, k4, k5, k6, k7, k8, x2, x3, x4, x5⟩ : S33)) from HX7.out.dr)
 clear HV2' HV3' HV4' HV5' HV6' HV7' HV8' HLK2 HLK3 HLK4 HLK5 HLK6 HLK7 HLK8 HN16 HW7 HPE HMB
 have hcb : f7.cell? ⟨g9, 0, none⟩ = some (.pointer (some ⟨B9, 0, none⟩)) := (show ZBox f7 g9 #[.pointer (some ⟨B9, 0, none⟩)] 78 from HX7.out.rb).at 0 _ rfl
 go_wp2_with fail
 refine (left_calls B9 base9 s7 f7 HX7.out.st).mono ?_
 rintro e y9 ⟨rfl, rfl⟩
 clear hcb
 by_cases hl : 0 < s7.length
 ·have hd : decide (0 < (s7.length : Int)) = true := decide_eq_true (by omega)
  have HP := Aside0.mk (HPG.out.trans (if_pos hl))
  go_wp2_with fail
  exact door_no HP.out HDR.out rfl rfl
 have hd : decide (0 < (s7.length : Int)) = false := decide_eq_false (by omega)
 replace HPG := Aside0.mk (HPG.out.trans (if_neg hl))
 go_upto_region 25 with fail
 clear hd hl
 have HAT := Aside0.mk (show At f7 w.heap.size (⟨A2', A3', A4', A5', A6', A7', A8', k2', k3', k4', k5', k6', k7', k8'⟩ : TV) (⟨x0, x1, k2, k3, k4, k5, k6, k7, k8, x2, x3, x4, x5⟩ : S33) from ⟨HDR.out.b2, tb_of HRW.out HBD.out⟩)
 go_wp2_with ((with_reducible refine gate_dst (N := 134) rfl ?_); refine load33 HAT.out rfl (.tmp 2) rfl rfl ?_)
 refine (check_calls (⟨A2', A3', A4', A5', A6', A7', A8', k2', k3', k4', k5', k6', k7', k8'⟩ : TV) (⟨x0, x1, k2, k3, k4, k5, k6, k7, k8, x2, x3, x4, x5⟩ : S33) f7 HAT.out.tb).mono ?_
 rintro e z1 ⟨rfl, hbz⟩
 replace HDR := Aside0.mk (HDR.out.below hbz)
 replace HAT := Aside0.mk (HAT.out.below hbz)
 replace HRW := Aside0.mk (HRW.out.below hbz)
 clear hbz HX7 HBD
 obtain ⟨er, her⟩ : ∃ er, er = tabE (⟨x0, x1, k2, k3, k4, k5, k6, k7, k8, x2, x3, x4, x5⟩ : S33) := ⟨_, rfl⟩
 rw [← her] at HPG ⊢
 clear her
 by_cases hz : er = 0
 case neg =>
  have HP := Aside0.mk (HPG.out.trans (if_neg hz))
  go_wp2_with fail
  exact door_no HP.out HDR.out rfl rfl
 have HP := Aside0.mk (HPG.out.trans (if_pos hz))
 subst hz
 clear HPG
 have HD1 := Aside0.mk (HDR.out.row (arr (⟨A2', A3', A4', A5', A6', A7', A8', k2', k3', k4', k5', k6', k7', k8'⟩ : TV) (⟨x0, x1, k2, k3, k4, k5, k6, k7, k8, x2, x3, x4, x5⟩ : S33)) rfl)
 have HR1 := Aside0.mk (HRW.out.only (grown_row z1 w.heap.size (arr (⟨A2', A3', A4', A5', A6', A7', A8', k2', k3', k4', k5', k6', k7', k8'⟩ : TV) (⟨x0, x1, k2, k3, k4, k5, k6, k7, k8, x2, x3, x4, x5⟩ : S33))) HLO.out.2)
 have hc3 : (z1.setRow w.heap.size (arr (⟨A2', A3', A4', A5', A6', A7', A8', k2', k3', k4', k5', k6', k7', k8'⟩ : TV) (⟨x0, x1, k2, k3, k4, k5, k6, k7, k8, x2, x3, x4, x5⟩ : S33))).cell? ⟨w.heap.size + 1, 0, none⟩ = some (.int .i64 0) := HD1.out.b3.at 0 _ rfl
 have hf3 := HD1.out.b3.fr 0
 have HD2 := Aside0.mk HD1.out.zero.1
 have HR2 := Aside0.mk (HR1.out.only HD1.out.zero.2 (show w.heap.size + 1 < lo from by have := HLO.out; have := HG9.out; omega))
 go_wp2_with (first | ((with_reducible refine gate_dst (N := 139) rfl ?_); refine load33 HAT.out rfl (.tmp 2) rfl rfl ?_) | (refine wpList_store_row rfl 33 (.tmp 2) (.tmp 139) rfl w.heap.size (arr (⟨A2', A3', A4', A5', A6', A7', A8', k2', k3', k4', k5', k6', k7', k8'⟩ : TV) (⟨x0, x1, k2, k3, k4, k5, k6, k7, k8, x2, x3, x4, x5⟩ : S33)) rfl rfl 33 _ HDR.out.b2 (by kernel_rfl) rfl (by simp [arr, Value.oneCell']) ?_))
 exact door_yes HP.out HD2.out rfl (HR2.out.lower (by have := HLO.out; omega)) rfl rfl
end Go.Proofs.Ytbgcemijihpakaa.XA
