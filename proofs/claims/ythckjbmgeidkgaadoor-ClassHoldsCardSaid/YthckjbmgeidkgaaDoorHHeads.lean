/- heads. -/
import Derived.Test.YthckjbmgeidkgaaDoorHSmall
namespace Go.Proofs.YthckjbmgeidkgaaDoor.XA
set_option linter.unusedVariables false
set_option linter.unusedSimpArgs false
open Go.RowKit Go.WideMaps Go.Maps Go.Proofs.YthckjbmgeidkgaaDoorW.PrintWords Go.Proofs.YthckjbmgeidkgaaDoorW.PrintLast Go.Proofs.YthckjbmgeidkgaaDoorW.PrintMore
structure HdSt (w0 w : World) (bm P bt : Nat) (l : List UInt8) (k : Nat) : Prop where
  bel : Below w0.heap.size w0 w
  box : w.heap[P]? = some (.cells (smA bm bt l.length k) 33 (0, 0))
  sm : SmAt w bm bt l k
  bm_ : w0.heap.size ≤ bm
  p_ : w0.heap.size ≤ P
  bt_ : w0.heap.size ≤ bt
theorem HdSt.below {w0 w w1 : World} {bm P bt : Nat} {l : List UInt8} {k : Nat} (h : HdSt w0 w bm P bt l k) (hB : Below w.heap.size w w1) : HdSt w0 w1 bm P bt l k :=
  ⟨h.bel.trans (hB.mono h.bel.size), (hB.block _ (blk_lt h.box)).trans h.box, h.sm.below hB, h.bm_, h.p_, h.bt_⟩
theorem SmAt.own {w : World} {bm bt : Nat} {l : List UInt8} {k base : Nat} (h : SmAt w bm bt l k) (hb : base ≤ bt) (hk : k ≤ maxLen) : w.ownsRow base 49 8 (.slice (some ⟨bt, 0, none⟩) l.length k) l.length (l.flatMap tkCells) := by
  obtain ⟨cur, ht, hsz, htk⟩ := h.t
  exact ⟨flat_len l, .inr ⟨bt, k, cur, rfl, hb, ht, h.le, hk, hsz, htk⟩⟩
theorem ne_ty {w : World} {a b : Nat} {x y : Array Value} {s t : Nat} (h1 : w.heap[a]? = some (.cells x s (0, 0))) (h2 : w.heap[b]? = some (.cells y t (0, 0))) (hn : s ≠ t) : a ≠ b := by
  rintro rfl
  rw [h1] at h2
  injection h2 with h2
  injection h2 with _ h2
  exact hn h2
theorem HdSt.app {w0 W w1 : World} {bm P bt : Nat} {l : List UInt8} {k : Nat} {v1 : Value} {b : UInt8} (h : HdSt w0 W bm P bt l k) (hown : w1.ownsRow w0.heap.size 49 8 v1 (l.length + 1) (l.flatMap tkCells ++ tkCells b)) (hB : Below w0.heap.size w0 w1) (hg : W.grownBy w1 (some bt)) :
    ∃ g cap, v1 = .slice (some ⟨g, 0, none⟩) (l.length + 1) cap ∧ w1.cell? ⟨P, 11, none⟩ = some (.slice (some ⟨bt, 0, none⟩) l.length k) ∧ w1.frozen? ⟨P, 11, none⟩ = false ∧ HdSt w0 (w1.setCell ⟨P, 11, none⟩ (.slice (some ⟨g, 0, none⟩) (l.length + 1) cap)) bm P g (l ++ [b]) cap ∧ ∀ j, j ≠ bt → j ≠ P → j < W.heap.size → (w1.setCell ⟨P, 11, none⟩ (.slice (some ⟨g, 0, none⟩) (l.length + 1) cap)).heap[j]? = W.heap[j]? := by
  obtain ⟨_, ⟨_, hn⟩ | ⟨g, cap, cur, rfl, hbg, hgh, hle, _, hsz, htk⟩⟩ := hown
  · omega
  · obtain ⟨cur0, ht0, _, _⟩ := h.sm.t
    have hPb : P ≠ bt := ne_ty h.box ht0 (by decide)
    have hmb : bm ≠ bt := ne_ty h.sm.m ht0 (by decide)
    have hmP : bm ≠ P := ne_ty h.sm.m h.box (by decide)
    have hP1 := (hg.block _ (blk_lt h.box) (fun e => hPb (by injection e))).trans h.box
    have hm1 := (hg.block _ (blk_lt h.sm.m) (fun e => hmb (by injection e))).trans h.sm.m
    have hgP : g ≠ P := ne_ty hgh hP1 (by decide)
    refine ⟨g, cap, rfl, by simp [World.cell?, hP1, smA], by simp [World.frozen?, hP1], ⟨hB.setCell h.p_ _, ?_, ⟨?_, ⟨cur, ?_, hsz, ?_⟩, ?_⟩, h.bm_, h.p_, hbg⟩, fun j h1 h2 h3 => ?_⟩
    · simp [World.setCell, Array.getElem?_modify, hP1, smA]
    · rw [Below.heap_setCell _ _ _ _ hmP]
      exact hm1
    · rw [Below.heap_setCell _ _ _ _ hgP]
      exact hgh
    · rw [List.length_append, List.length_singleton, htk, List.flatMap_append]
      simp
    · rw [List.length_append, List.length_singleton]
      exact hle
    · rw [Below.heap_setCell _ _ _ _ h2]
      exact hg.block _ h3 (fun e => h1 (by injection e))
theorem HdSt.name {w0 w : World} {bm P bt : Nat} {k : Nat} {a b x : UInt8} (h : HdSt w0 w bm P bt [a, b] k) :
    (∃ v, w.cell? ⟨bt, 8, none⟩ = some v) ∧ w.frozen? ⟨bt, 8, none⟩ = false ∧ HdSt w0 (w.setCell ⟨bt, 8, none⟩ (.string ⟨#[x]⟩)) bm P bt [a, x] k ∧ ∀ j, j ≠ bt → (w.setCell ⟨bt, 8, none⟩ (.string ⟨#[x]⟩)).heap[j]? = w.heap[j]? := by
  obtain ⟨cur, ht, hsz, htk⟩ := h.sm.t
  have hle := h.sm.le
  have h8 : 8 < cur.size := by
    have : 2 ≤ k := hle
    omega
  have hPb : P ≠ bt := ne_ty h.box ht (by decide)
  have hmb : bm ≠ bt := ne_ty h.sm.m ht (by decide)
  refine ⟨⟨cur[8], by simp [World.cell?, ht, h8]⟩, by simp [World.frozen?, ht], ⟨h.bel.setCell h.bt_ _, ?_, ⟨?_, ⟨cur.set 8 (.string ⟨#[x]⟩) h8, ?_, by simpa using hsz, ?_⟩, hle⟩, h.bm_, h.p_, h.bt_⟩, fun j hj => Below.heap_setCell _ _ _ _ hj⟩
  · rw [Below.heap_setCell _ _ _ _ hPb]
    exact h.box
  · rw [Below.heap_setCell _ _ _ _ hmb]
    exact h.sm.m
  · simp [World.setCell, Array.getElem?_modify, ht]
    simp [Array.setIfInBounds, h8]
  · have : cur.toList.take 16 = tkCells a ++ tkCells b := by simpa using htk
    simp only [Array.toList_set, List.length_cons, List.length_nil]
    rw [show (0 + 1 + 1) * 8 = 16 by rfl, List.take_set, this]
    rfl
section
variable {ops : Array Oper} {rest : List Oper} {o : Oper} {a : Act}
theorem loadSm {Q : Exit → Act → World → Prop} {w : World} {P bm bt n k : Nat} (hg : w.heap[P]? = some (.cells (smA bm bt n k) 33 (0, 0))) (hgd : o.guard = none) (y : Operand) (ho : o.op = .load 33 y) (hy : a.eval y = .pointer (some ⟨P, 0, none⟩)) (h : wpList Tryd.prog ops Q rest (a.put o.dst (.agg (smA bm bt n k))) w) : wpList Tryd.prog ops Q (o :: rest) a w := by
  refine Kd.event_run hgd (v := .agg (smA bm bt n k)) ?_ h
  have hl := load_agg (w := w) (t := 33) (n := 18) (a := (⟨P, 0, none⟩ : Addr)) (cs := (smA bm bt n k).toList) agg33 size33 rfl (fun j v hj => cell_of hg (by simpa using hj))
  simp only [execOp, ho, hy]
  simp [hl, Result.andThen]
theorem store33 {Q : Exit → Act → World → Prop} {w : World} {z : Array Value} (hz : z.size = 18) (bm bt n k : Nat) (hgd : o.guard = none) (x y : Operand) (ho : o.op = .store 33 x y) (hx : a.eval x = .pointer (some ⟨w.heap.size, 0, none⟩)) (hy : a.eval y = .agg (smA bm bt n k))
    (h : wpList Tryd.prog ops Q rest (a.put o.dst undef) (w.alloc (.cells (smA bm bt n k) 33))) : wpList Tryd.prog ops Q (o :: rest) a (w.alloc (.cells z 33)) :=
  wpList_plain hgd fun _ hK => by
    have hr := run_storeVar_new (P := Tryd.prog) w 33 z (smA bm bt n k) (by rw [show (smA bm bt n k).size = 18 from rfl]; kernel_rfl) (by rw [hz]; rfl) (by simp [smA, Value.oneCell'])
    unfold Oper.wp execOp
    simp only [ho, hx, hy, Instr.storeAt, Instr.sureAddr, Sem.run_bind, Sem.run_pure, Result.andThen_ok, hr]
    exact hK _ _ h
theorem store36n {Q : Exit → Act → World → Prop} {w : World} {z : Array Value} (hz : z.size = 3) (v : Ver) (hgd : o.guard = none) (x y : Operand) (ho : o.op = .store 36 x y) (hx : a.eval x = .pointer (some ⟨w.heap.size, 0, none⟩)) (hy : a.eval y = vA v)
    (h : wpList Tryd.prog ops Q rest (a.put o.dst undef) (w.alloc (.cells #[.int .i64 v.1, .string v.2.1, .int .i64 v.2.2] 36))) : wpList Tryd.prog ops Q (o :: rest) a (w.alloc (.cells z 36)) :=
  wpList_plain hgd fun _ hK => by
    have hr := run_storeVar_new (P := Tryd.prog) w 36 z #[.int .i64 v.1, .string v.2.1, .int .i64 v.2.2] (by kernel_rfl) (by rw [hz]; rfl) (by simp [Value.oneCell'])
    unfold vA at hy
    unfold Oper.wp execOp
    simp only [ho, hx, hy, Instr.storeAt, Instr.sureAddr, Sem.run_bind, Sem.run_pure, Result.andThen_ok, hr]
    exact hK _ _ h
theorem load36v {Q : Exit → Act → World → Prop} {w : World} {g : Nat} (v : Ver) (hg : w.heap[g]? = some (.cells #[.int .i64 v.1, .string v.2.1, .int .i64 v.2.2] 36 (0, 0))) (hgd : o.guard = none) (y : Operand) (ho : o.op = .load 36 y) (hy : a.eval y = .pointer (some ⟨g, 0, none⟩)) (h : wpList Tryd.prog ops Q rest (a.put o.dst (vA v)) w) : wpList Tryd.prog ops Q (o :: rest) a w := by
  refine Kd.event_run hgd (v := vA v) ?_ h
  have hl := load_agg (w := w) (t := 36) (n := 3) (a := (⟨g, 0, none⟩ : Addr)) (cs := [.int .i64 v.1, .string v.2.1, .int .i64 v.2.2]) (fun w => by kernel_rfl) (fun w => by kernel_rfl) rfl (fun j v hj => cell_of hg (by simpa using hj))
  simp only [execOp, ho, hy]
  simp [hl, vA, Result.andThen]
end
theorem chk_sm {w : World} {bm bt : Nat} {l : List UInt8} {k : Nat} (h : SmAt w bm bt l k) (hl : l.length ≤ 2) (hg : GlobAt w) (v : Ver) (hv : verV (smC (l.map tk)) = v) : Calls Tryd.prog 7 #[.agg (smA bm bt l.length k)] w fun e w' => e = .returned (vA v) ∧ Below w.heap.size w w' := by
  have := check_v (smV bm bt k) (smC (l.map tk)) w (sm_cf h hl) hg
  rw [sm_arr, List.length_map, hv] at this
  exact this
theorem cls_sm {w : World} {bm bt : Nat} {l : List UInt8} {k : Nat} (h : SmAt w bm bt l k) (hl : l.length ≤ 2) (hg : GlobAt w) (x y : Int) (hv : classV (smC (l.map tk)) = (x, y)) : Calls Tryd.prog 10 #[.agg (smA bm bt l.length k)] w fun e w' => e = .returned (.tuple #[.int .i64 x, .int .i64 y]) ∧ Below w.heap.size w w' := by
  have := class_calls (smV bm bt k) (smC (l.map tk)) w (sm_cf h hl) hg
  rw [sm_arr, List.length_map, hv] at this
  exact this
theorem ext_sm {w : World} {bm bt : Nat} {l : List UInt8} {k : Nat} (h : SmAt w bm bt l k) (hl : l.length ≤ 2) (n : Int) (b : Bool) (hv : extV (smC (l.map tk)) n = b) : Calls Tryd.prog 12 #[.agg (smA bm bt l.length k), .int .i64 n] w fun e w' => e = .returned (.bool b) ∧ Below w.heap.size w w' := by
  have := ext_calls 12 (.inl rfl) (smV bm bt k) (smC (l.map tk)) n w (sm_cf h hl)
  rw [sm_arr, List.length_map, hv] at this
  exact this
set_option maxRecDepth 1000000 in
set_option maxHeartbeats 4000000 in
theorem heads_calls (w : World) (hg : GlobAt w) : Calls Tryd.prog 9 #[] w fun e w' => e = .returned (.bool true) ∧ Below w.heap.size w w' := by
  have HG := Aside0.mk hg
  clear hg
  go_enter Tryd.func9, Tryd.ntmps9
  go_wp2_with fail
  refine (small_calls w).mono ?_
  rintro e w1 ⟨rfl, hs, B1⟩
  generalize hbm : w.heap.size + 1 = bm at *
  generalize hbt : bm + 1 = bt at *
  have HBM := Aside0.mk (show w.heap.size ≤ bm ∧ w.heap.size ≤ bt by omega)
  have HS := Aside0.mk (show HdSt w (w1.alloc (.cells (smA bm bt 1 1) 33)) bm w1.heap.size bt [116] 1 from ⟨B1.alloc B1.size _, heap_alloc_new _ _, hs.below (below_a _ _), HBM.out.1, B1.size, HBM.out.2⟩)
  clear hbm hbt hs B1 HBM
  go_wp2_with (first | (refine store33 (by rfl) bm bt 1 1 (by rfl) (.tmp 1) (.tmp 8) (by rfl) (by rfl) (by rfl) ?_) | (refine loadSm HS.out.box (by rfl) (.tmp 1) (by rfl) (by rfl) ?_))
  generalize w1.alloc (.cells (smA bm bt 1 1) 33) = w2 at *
  generalize w1.heap.size = P at *
  refine (chk_sm HS.out.sm (by decide) (HG.out.below HS.out.bel) okVer ver1).mono ?_
  rintro e w3 ⟨rfl, B3⟩
  have HS3 := Aside0.mk (HS.out.below B3)
  clear B3 HS
  have HSa := Aside0.mk (HS3.out.below (below_a w3 (.cells #[.int .i64 okVer.1, .string okVer.2.1, .int .i64 okVer.2.2] 36)))
  have HV := Aside0.mk (heap_alloc_new w3 (.cells #[.int .i64 okVer.1, .string okVer.2.1, .int .i64 okVer.2.2] 36))
  have HW2 := Aside0.mk (HS3.out.bel.size)
  clear HS3
  go_wp2_with (first | (refine store36n (by rfl) okVer (by rfl) (.tmp 2) (.tmp 10) (by rfl) (by rfl) (by rfl) ?_) | ((with_reducible refine gate_dst (N := 12) rfl ?_); refine loadSm HSa.out.box (by rfl) (.tmp 1) (by rfl) (by rfl) ?_))
  generalize w3.alloc (.cells #[.int .i64 okVer.1, .string okVer.2.1, .int .i64 okVer.2.2] 36) = w4 at *
  generalize w3.heap.size = P2 at *
  refine (cls_sm HSa.out.sm (by decide) (HG.out.below HSa.out.bel) 1 0 cls1).mono ?_
  rintro e w5 ⟨rfl, B5⟩
  have HS5 := Aside0.mk (HSa.out.below B5)
  have HV5 := Aside0.mk ((B5.block _ (blk_lt HV.out)).trans HV.out)
  clear B5 HSa HV
  have c11 : w5.cell? ⟨P, 11, none⟩ = some (.slice (some ⟨bt, 0, none⟩) 1 1) := by have := cell_of (j := 11) HS5.out.box rfl; exact this
  have HOW := Aside0.mk (HS5.out.sm.own HS5.out.bt_ (show 1 ≤ maxLen by decide))
  have HV5lt := Aside0.mk (blk_lt HV5.out)
  go_wp2_with (first | ((with_reducible refine gate_builtin (b := .append) (xs := #[.tmp 17, .tmp 19]) rfl ?_); at_builtin; (refine print_append_cells (w0 := w) w.heap.size rfl (.tmp 17) (.tmp 19) 25 49 (.agg #[(.string ⟨#[]⟩), (.int .i64 0), (.bool false), (.int .i64 0), (.slice none 0 0), (.slice none 0 0), (.slice none 0 0), (.slice none 0 0)]) 8 136 rfl Tryd.underlying25 info49 rfl (by decide) (by decide) (.slice (some ⟨bt, 0, none⟩) 1 1) 1 ([116].flatMap tkCells) [.string ⟨#[116]⟩, .int .i64 1, .bool false, .int .i64 1, .slice none 0 0, .slice none 0 0, .slice none 0 0, .slice none 0 0] rfl rfl rfl (by simp [Value.oneCell']) HOW.out HS5.out.bel HS5.out.bel.size (by decide) ?_); intro v1 w6 HO6 HB6 HG6 HA6; obtain ⟨g, cap, e6, t6, f6, hs6, hk6⟩ := HS5.out.app (b := 116) HO6 HB6 HG6; subst e6; have HS6 := Aside0.mk hs6; have HK6 := Aside0.mk hk6; clear HO6 HB6 HG6 HA6 hs6 hk6) | ((with_reducible refine gate_dst (N := 22) rfl ?_); refine loadSm HS6.out.box (by rfl) (.tmp 1) (by rfl) (by rfl) ?_))
  have HV6 := Aside0.mk ((HK6.out P2 (by obtain ⟨cur0, ht0, _, _⟩ := HS5.out.sm.t; exact ne_ty HV5.out ht0 (by decide)) (ne_ty HV5.out HS5.out.box (by decide)) HV5lt.out).trans HV5.out)
  clear HK6 HV5 HV5lt HS5 HOW t6 f6 c11
  generalize w6.setCell ⟨P, 11, none⟩ (.slice (some ⟨g, 0, none⟩) 2 cap) = w7 at *
  refine (chk_sm HS6.out.sm (by decide) (HG.out.below HS6.out.bel) (72, ⟨#[84, 65, 83, 75]⟩, 1) ver2).mono ?_
  rintro e w8 ⟨rfl, B8⟩
  have HS8 := Aside0.mk (HS6.out.below B8)
  have HV8 := Aside0.mk ((B8.block _ (blk_lt HV6.out)).trans HV6.out)
  clear B8 HS6 HV6
  have HBa := Aside0.mk (below_a w8 (.cells #[.int .i64 72, .string ⟨#[84, 65, 83, 75]⟩, .int .i64 1] 36))
  have HS9 := Aside0.mk (HS8.out.below HBa.out)
  have HV9 := Aside0.mk ((HBa.out.block _ (blk_lt HV8.out)).trans HV8.out)
  have HU9 := Aside0.mk (heap_alloc_new w8 (.cells #[.int .i64 72, .string ⟨#[84, 65, 83, 75]⟩, .int .i64 1] 36))
  obtain ⟨⟨v8, n8⟩, nf, hsn, hkn⟩ := HS9.out.name (x := 117)
  have HSN := Aside0.mk hsn
  have HKN := Aside0.mk hkn
  have c11 : (w8.alloc (.cells #[.int .i64 72, .string ⟨#[84, 65, 83, 75]⟩, .int .i64 1] 36)).cell? ⟨P, 11, none⟩ = some (.slice (some ⟨g, 0, none⟩) 2 cap) := by have := cell_of (j := 11) HS9.out.box rfl; exact this
  clear HS8 HV8 HBa hsn hkn
  go_wp2_with (first | (refine store36n (by rfl) (72, ⟨#[84, 65, 83, 75]⟩, 1) (by rfl) (.tmp 5) (.tmp 23) (by rfl) (by rfl) (by rfl) ?_) | ((with_reducible refine gate_dst (N := 29) rfl ?_); refine loadSm HSN.out.box (by rfl) (.tmp 1) (by rfl) (by rfl) ?_))
  have hgt := HSN.out.sm.t
  have HVN := Aside0.mk ((HKN.out P2 (by obtain ⟨cur0, ht0, _, _⟩ := HS9.out.sm.t; exact ne_ty HV9.out ht0 (by decide))).trans HV9.out)
  have HUN := Aside0.mk ((HKN.out w8.heap.size (by obtain ⟨cur0, ht0, _, _⟩ := HS9.out.sm.t; exact ne_ty HU9.out ht0 (by decide))).trans HU9.out)
  clear HKN HS9 HV9 HU9 n8 nf c11 hgt
  generalize (w8.alloc (.cells #[.int .i64 72, .string ⟨#[84, 65, 83, 75]⟩, .int .i64 1] 36)).setCell ⟨g, 8, none⟩ (.string ⟨#[117]⟩) = wa at *
  generalize w8.heap.size = P5 at *
  refine (cls_sm HSN.out.sm (by decide) (HG.out.below HSN.out.bel) 2 0 cls3).mono ?_
  rintro e wb ⟨rfl, Bb⟩
  have HSB := Aside0.mk (HSN.out.below Bb)
  have HVB := Aside0.mk ((Bb.block _ (blk_lt HVN.out)).trans HVN.out)
  have HUB := Aside0.mk ((Bb.block _ (blk_lt HUN.out)).trans HUN.out)
  clear Bb HSN HVN HUN
  have he1 : eqV okVer okVer = true := eqV_iff.mpr rfl
  have he2 : eqV (72, ⟨#[84, 65, 83, 75]⟩, 1) (72, ⟨#[84, 65, 83, 75]⟩, 1) = true := eqV_iff.mpr rfl
  go_wp2_with (first | ((with_reducible refine gate_dst (N := 33) rfl ?_); refine load36v okVer HVB.out (by rfl) (.tmp 2) (by rfl) (by rfl) ?_) | ((with_reducible refine gate_dst (N := 35) rfl ?_); refine Kd.event_run (by rfl) (v := .bool true) (he1 ▸ run_eq36 _ okVer okVer (.tmp 33) (.tmp 34) rfl rfl rfl) ?_) | ((with_reducible refine gate_dst (N := 45) rfl ?_); (refine gate_guard (by rfl) ?_; dsimp only); refine load36v (72, ⟨#[84, 65, 83, 75]⟩, 1) HUB.out (by rfl) (.tmp 5) (by rfl) (by rfl) ?_) | ((with_reducible refine gate_dst (N := 47) rfl ?_); (refine gate_guard (by rfl) ?_; dsimp only); refine Kd.event_run (by rfl) (v := .bool true) (he2 ▸ run_eq36 _ (72, ⟨#[84, 65, 83, 75]⟩, 1) (72, ⟨#[84, 65, 83, 75]⟩, 1) (.tmp 45) (.tmp 46) rfl rfl rfl) ?_) | ((with_reducible refine gate_dst (N := 58) rfl ?_); (refine gate_guard (by rfl) ?_; dsimp only); refine loadSm HSB.out.box (by rfl) (.tmp 1) (by rfl) (by rfl) ?_))
  refine (ext_sm HSB.out.sm (by decide) 0 false ext3).mono ?_
  rintro e wc ⟨rfl, Bc⟩
  have HSC := Aside0.mk (HSB.out.below Bc)
  clear Bc HSB HVB HUB
  go_wp2_with fail
  go_ret
  exact ⟨rfl, HSC.out.bel⟩
end Go.Proofs.YthckjbmgeidkgaaDoor.XA
