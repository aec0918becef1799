/- the document's Copy: tables of their own. -/
import Derived.Test.YtbgcemijihpakaaG44
namespace Go.Proofs.Ytbgcemijihpakaa.XA
set_option linter.unusedVariables false
set_option linter.unusedSimpArgs false
open Go.RowKit Go.WideMaps Go.Maps Go.Proofs.YtbgcemijihpakaaW.PrintWords Go.Proofs.YtbgcemijihpakaaW.PrintLast Go.Proofs.YtbgcemijihpakaaW.PrintMore
/-- what the copy needs room for -/
structure Wt (t : S33) : Prop where
 w2 : t.f2.length * 80 ≤ 140737488355328
 w3 : t.f3.length * 16 ≤ 140737488355328
 w4 : t.f4.length * 16 ≤ 140737488355328
 w5 : t.f5.length * 12 ≤ 140737488355328
 w6 : t.f6.length * 48 ≤ 140737488355328
 w7 : t.f7.length * 40 ≤ 140737488355328
 w8 : t.f8.length * 64 ≤ 140737488355328
 o2 : ∀ x ∈ t.f2, x.f6.length * 8 ≤ 140737488355328
 o7 : ∀ x ∈ t.f7, x.f2.length * 8 ≤ 140737488355328
structure CSt (w wr : World) (V : TV) (t : S33) (z : Array Value) : Prop where
 low : Below w.heap.size w wr
 src : At wr w.heap.size V t
 zb : ZBox wr (w.heap.size + 1) z33A 33
 db : ZBox wr (w.heap.size + 1 + 1) z 33
section
variable {w wr w2 : World} {V : TV} {t : S33} {z : Array Value}
theorem CSt.below (h : CSt w wr V t z) (hb : Below wr.heap.size wr w2) : CSt w w2 V t z := ⟨h.low.trans (hb.mono h.low.size), h.src.below hb, h.zb.below hb, h.db.below hb⟩
theorem CSt.lt (h : CSt w wr V t z) : w.heap.size + 1 + 1 < wr.heap.size := blk_lt h.db
theorem CSt.grown (h : CSt w wr V t z) (hb : Below w.heap.size w w2) (ht : Tb w V t) {row : Option Nat} (hg : wr.grownBy w2 row) (hr : ∀ k, row = some k → w.heap.size + 3 ≤ k) : CSt w w2 V t z :=
 ⟨hb, ⟨(hg.block _ h.src.lt (fun e => by have := hr _ e.symm; omega)).trans h.src.box, ht.below hb⟩, (hg.block _ (blk_lt h.zb) (fun e => by have := hr _ e.symm; omega)).trans h.zb, (hg.block _ (blk_lt h.db) (fun e => by have := hr _ e.symm; omega)).trans h.db⟩
theorem CSt.cell (h : CSt w wr V t z) (ht : Tb w V t) (i : Nat) (v : Value) : CSt w (wr.setCell ⟨w.heap.size + 1 + 1, i, none⟩ v) V t (z.setIfInBounds i v) := by
 rw [setCell_eq_setRow wr (w.heap.size + 1 + 1) i z 33 (0, 0) v h.db]
 have hb : Below w.heap.size wr (wr.setRow (w.heap.size + 1 + 1) (z.setIfInBounds i v)) := ⟨rfl, rfl, rfl, by rw [setRow_size]; exact Nat.le_refl _, fun k hk => setRow_other wr _ k _ (by omega)⟩
 have hl := h.low.trans hb
 exact ⟨hl, ⟨(setRow_other wr _ _ _ (by omega)).trans h.src.box, ht.below hl⟩, (setRow_other wr _ _ _ (by omega)).trans h.zb, ZBox.row h.db _⟩
theorem CSt.size (h : CSt w wr V t z) (i : Nat) (v : Value) : (wr.setCell ⟨w.heap.size + 1 + 1, i, none⟩ v).heap.size = wr.heap.size := by rw [setCell_eq_setRow wr (w.heap.size + 1 + 1) i z 33 (0, 0) v h.db, setRow_size]
/-- a row of the copy's own stays when the copy's box is written -/
theorem R_cp {α : Type} {d : Kd α} {e : Nat} {v : Value} {xs : List α} (h : d.R e wr (w.heap.size + 3) (fun _ => True) v xs) (hd : CSt w wr V t z) (i : Nat) (u : Value) : d.R e (wr.setCell ⟨w.heap.size + 1 + 1, i, none⟩ u) (w.heap.size + 3) (fun _ => True) v xs := by
 have := R_only h (grown_row wr (w.heap.size + 1 + 1) (z.setIfInBounds i u)) (by omega)
 rw [← setCell_eq_setRow wr (w.heap.size + 1 + 1) i z 33 (0, 0) u hd.db] at this
 exact this
end
/-- a row of another type stays when a row grows -/
theorem R_beside {α β : Type} {d : Kd α} {d2 : Kd β} {e e2 q : Nat} {w w2 : World} {v u : Value} {xs : List α} {ys : List β} {b : Nat} (h : d.R e w q (fun _ => True) v xs) (hu : d2.R e2 w b (fun _ => True) u ys) (hg : w.grownBy w2 u.ownBlock) (hne : ∀ q, q ∈ e :: d.E → q ≠ e2) : d.R e w2 q (fun _ => True) v xs :=
 Kd.R_mono (Kd.R_grown (Kd.R_apart' h (Kd.R_typed hu) hne) hg (fun k hk => hk.2)) (fun _ _ => trivial)
theorem own_ge {α : Type} {d : Kd α} {e q : Nat} {w : World} {v : Value} {xs : List α} (h : d.R e w q (fun _ => True) v xs) : ∀ k, v.ownBlock = some k → q ≤ k := fun k hk => by
 obtain ⟨_, inner, ho, _⟩ := h
 exact own_base ho k hk
theorem take_one {α : Type} (l : List α) (d : α) (k : Nat) (hk : k < l.length) : l.take (k + 1) = l.take k ++ [l.getD k d] := by
 rw [List.take_succ_eq_append_getElem hk, List.getD_eq_getElem?_getD, List.getElem?_eq_getElem hk]
 rfl
theorem cp_start (V : TV) (t : S33) (w : World) (ht : Tb w V t) : CSt w (((w.alloc (.cells (arr V t) 33)).alloc (.cells z33A 33)).alloc (.cells (arr V t) 33)) V t (arr V t) := by
 have b1 := below_a w (.cells (arr V t) 33)
 have b2 := below_a (w.alloc (.cells (arr V t) 33)) (.cells z33A 33)
 have b3 := below_a ((w.alloc (.cells (arr V t) 33)).alloc (.cells z33A 33)) (.cells (arr V t) 33)
 have h2 := heap_alloc_new (w.alloc (.cells (arr V t) 33)) (.cells z33A 33)
 have h3 := heap_alloc_new ((w.alloc (.cells (arr V t) 33)).alloc (.cells z33A 33)) (.cells (arr V t) 33)
 rw [World.size_alloc] at h2
 rw [World.size_alloc, World.size_alloc] at h3
 refine ⟨b1.trans ((b2.mono b1.size).trans (b3.mono (Nat.le_trans b1.size b2.size))), ((At.made ht).below b2).below b3, (b3.block _ (blk_lt h2)).trans h2, h3⟩
theorem box_cell {w : World} {g : Nat} {cs : Array Value} {e j : Nat} {v : Value} (h : ZBox w g cs e) (hj : cs.toList[j]? = some v) : w.cell? ((⟨g, 0, none⟩ : Addr).add j) = some v := cell_of h (by simpa using hj)
theorem low_of {w wr w5 : World} (h : Below w.heap.size w wr) (h2 : Below (w.heap.size + 3) wr w5) : Below w.heap.size w w5 := h.trans (h2.mono (by omega))
set_option maxRecDepth 1000000 in
set_option maxHeartbeats 4000000 in
theorem copy_calls (V : TV) (t : S33) (w : World) (ht : Tb w V t) (hw : Wt t) :
  Calls Try.prog 19 #[.agg (arr V t)] w fun e w' => ∃ V', e = .returned (.agg (arr V' t)) ∧ DecRows w.heap.size w' V' t ∧ Below w.heap.size w w' := by
 have HT := Aside0.mk ht
 have HWT := Aside0.mk hw
 have HP := Aside0.mk (show At (((w.alloc (.cells (arr V t) 33)).alloc (.cells z33A 33))) w.heap.size V t from (At.made ht).below (below_a _ _))
 have HC := Aside0.mk (cp_start V t w ht)
 clear ht hw
 unfold arr z33A at *
 go_enter Try.func19, Try.ntmps19
 go_upto_region 2 with ((with_reducible refine gate_dst (N := 8) rfl ?_); refine load33 HP.out rfl (.tmp 1) rfl rfl ?_)
 clear HP
 generalize ((w.alloc _).alloc _).alloc _ = w0 at *
 have cc : w0.cell? ⟨w.heap.size + 1 + 1, 2, none⟩ = some (.slice V.a2 t.f2.length V.k2) := HC.out.db.at 2 _ rfl
 have ff := HC.out.db.fr 2
 go_upto_region 3 with fail
 clear cc ff
 have HC0 := Aside0.mk (show CSt w (w0.setCell ⟨w.heap.size + 1 + 1, 2, none⟩ (.slice none 0 0)) V t #[.int .i64 t.f0, .int .i64 t.f1, .slice none 0 0, .slice V.a3 t.f3.length V.k3, .slice V.a4 t.f4.length V.k4, .slice V.a5 t.f5.length V.k5, .slice V.a6 t.f6.length V.k6, .slice V.a7 t.f7.length V.k7, .slice V.a8 t.f8.length V.k8, .int .i64 t.f9, .int .i64 t.f10, .int .i64 t.f11, .int .i64 t.f12] from HC.out.cell HT.out 2 _)
 clear HC
 generalize w0.setCell ⟨w.heap.size + 1 + 1, 2, none⟩ (.slice none 0 0) = w1 at *
 have HR0 := Aside0.mk (show k69.R 69 w1 (w.heap.size + 3) (fun _ => True) (.slice none 0 0) (t.f2.take 0) from Kd.R_nil _ _ _ _ _)
 go_wp2_with fail
 go_loopg [4] t.f2.length (fun g i wr => ∃ (k : Nat) (B2 : Option Addr) (m2 d2 : Nat), k ≤ t.f2.length ∧ g = t.f2.length - k ∧ i = .int .i64 k ∧ Aside0 (CSt w wr V t #[.int .i64 t.f0, .int .i64 t.f1, .slice B2 m2 d2, .slice V.a3 t.f3.length V.k3, .slice V.a4 t.f4.length V.k4, .slice V.a5 t.f5.length V.k5, .slice V.a6 t.f6.length V.k6, .slice V.a7 t.f7.length V.k7, .slice V.a8 t.f8.length V.k8, .int .i64 t.f9, .int .i64 t.f10, .int .i64 t.f11, .int .i64 t.f12]) ∧ Aside0 (k69.R 69 wr (w.heap.size + 3) (fun _ => True) (.slice B2 m2 d2) (t.f2.take k)))
 case atStart => exact ⟨0, none, 0, 0, by omega, rfl, rfl, HC0, HR0⟩
 case round =>
 clear HC0 HR0 
 obtain ⟨k, B2, m2, d2, hk, rfl, rfl, HC, HR⟩ := hrel
 have a2 := HC.out.src.q2
 by_cases hlt : k < t.f2.length
 case pos =>
  have hd : decide ((k : Int) < (t.f2.length : Int)) = true := decide_eq_true (by omega)
  have hbd := HC.out.src.tb.bd.tk
  have HLT := Aside0.mk hlt
  obtain ⟨x, ad, A6, c6, hx0, eA, HA0, l6, g6⟩ := task_at HC.out.src.tb.tk k hlt
  have HAX := Aside0.mk HA0
  have HX0 := Aside0.mk hx0
  have HOX := Aside0.mk (HWT.out.o2 x (by rw [← hx0]; exact getD_mem hlt))
  have B1 := below_a wr (.cells #[.int .i64 x.f0, .int .i64 x.f1, .bool x.f2, .int .i64 x.f3, .int .u32 x.f4, .int .i64 x.f5, .slice A6 x.f6.length c6, .int .u32 x.f7] 69)
  have HXB := Aside0.mk (heap_alloc_new wr (.cells #[.int .i64 x.f0, .int .i64 x.f1, .bool x.f2, .int .i64 x.f3, .int .u32 x.f4, .int .i64 x.f5, .slice A6 x.f6.length c6, .int .u32 x.f7] 69))
  have HGX := Aside0.mk (Kd.C_below g6 B1)
  have HB1 := Aside0.mk B1
  rw [eA] at a2
  clear hx0 eA HA0 l6 g6 B1
  go_upto_region 7 with (first | ((with_reducible refine gate_dst (N := 21) rfl ?_); refine load69 HAX.out rfl (.tmp 20) rfl rfl ?_) | (refine store69 (by rfl) #[.int .i64 x.f0, .int .i64 x.f1, .bool x.f2, .int .i64 x.f3, .int .u32 x.f4, .int .i64 x.f5, .slice A6 x.f6.length c6, .int .u32 x.f7] (by rfl) (by simp [Value.oneCell']) (by rfl) (.tmp 5) (.tmp 21) (by rfl) (by rfl) (by rfl) (by rfl) ?_))
  clear a2 HAX
  generalize wr.alloc (.cells #[.int .i64 x.f0, .int .i64 x.f1, .bool x.f2, .int .i64 x.f3, .int .u32 x.f4, .int .i64 x.f5, .slice A6 x.f6.length c6, .int .u32 x.f7] 69) = v1 at *
  have hx6 : v1.cell? ⟨wr.heap.size, 6, none⟩ = some (.slice A6 x.f6.length c6) := (show ZBox v1 wr.heap.size #[.int .i64 x.f0, .int .i64 x.f1, .bool x.f2, .int .i64 x.f3, .int .u32 x.f4, .int .i64 x.f5, .slice A6 x.f6.length c6, .int .u32 x.f7] 69 from HXB.out).at 6 _ rfl
  go_upto_region 8 with ((with_reducible refine gate_builtin (b := .append) (xs := #[.const (.slice none 0 0), .tmp 23]) rfl ?_); at_builtin; refine Kd.R_append_row (w0 := v1) (Value.int .i64) (0 : Int) v1.heap.size rfl _ _ 48 3 (.int .i64 0) 8 rfl Try.underlying48 info3 rfl (by omega) (.slice none 0 0) [] x.f6 A6 x.f6.length c6 (fun _ => True) rfl rfl (fun _ _ => trivial) (Kd.R_nil _ _ _ _ _) HGX.out (Below.refl _ _) (Nat.le_refl _) ?hl ?_; (case hl => have := HOX.out; simp only [List.length_nil]; omega); intro v2 v3 HR2 HB2 HG2 HA2; rw [List.nil_append] at HR2; obtain ⟨A7, c7, e7⟩ := Kd.R_slice HR2; subst e7; have HV2 := Aside0.mk HR2; have HBV := Aside0.mk HB2; have HXV := Aside0.mk ((HB2.block wr.heap.size (blk_lt HXB.out)).trans HXB.out); have cx := (show ZBox v3 wr.heap.size #[.int .i64 x.f0, .int .i64 x.f1, .bool x.f2, .int .i64 x.f3, .int .u32 x.f4, .int .i64 x.f5, .slice A6 x.f6.length c6, .int .u32 x.f7] 69 from HXV.out).at 6 _ rfl; have fx := (show ZBox v3 wr.heap.size #[.int .i64 x.f0, .int .i64 x.f1, .bool x.f2, .int .i64 x.f3, .int .u32 x.f4, .int .i64 x.f5, .slice A6 x.f6.length c6, .int .u32 x.f7] 69 from HXV.out).fr 6; clear HR2 HB2 HG2 HA2)
  clear hx6
  have e4 := setCell_eq_setRow v3 wr.heap.size 6 #[.int .i64 x.f0, .int .i64 x.f1, .bool x.f2, .int .i64 x.f3, .int .u32 x.f4, .int .i64 x.f5, .slice A6 x.f6.length c6, .int .u32 x.f7] 69 (0, 0) (.slice A7 x.f6.length c7) HXV.out
  have HX4 := Aside0.mk (show ZBox (v3.setCell ⟨wr.heap.size, 6, none⟩ (.slice A7 x.f6.length c7)) wr.heap.size #[.int .i64 x.f0, .int .i64 x.f1, .bool x.f2, .int .i64 x.f3, .int .u32 x.f4, .int .i64 x.f5, .slice A7 x.f6.length c7, .int .u32 x.f7] 69 from by rw [e4]; exact ZBox.row HXV.out _)
  have HV4 := Aside0.mk (show (Kd.int .i64).R 3 (v3.setCell ⟨wr.heap.size, 6, none⟩ (.slice A7 x.f6.length c7)) v1.heap.size (fun _ => True) (.slice A7 x.f6.length c7) x.f6 from by rw [e4]; exact R_only HV2.out (grown_row v3 wr.heap.size _) (blk_lt HXB.out))
  have HW4 := Aside0.mk (show Below wr.heap.size wr (v3.setCell ⟨wr.heap.size, 6, none⟩ (.slice A7 x.f6.length c7)) from (HB1.out.trans (HBV.out.mono HB1.out.size)).setCell (p := ⟨wr.heap.size, 6, none⟩) (Nat.le_refl _) _)
  have HLO := Aside0.mk (show wr.heap.size ≤ v1.heap.size from HB1.out.size)
  have HLT3 := Aside0.mk (fun (b : Nat) (hb : (Value.slice B2 m2 d2).ownBlock = some b) => Kd.R_lt HR.out b hb)
  clear e4 HXV HV2 HBV HB1 HXB HGX
  generalize v3.setCell ⟨wr.heap.size, 6, none⟩ (.slice A7 x.f6.length c7) = v4 at *
  have HC4 := Aside0.mk (HC.out.below HW4.out)
  have HR4 := Aside0.mk (Kd.R_below HR.out HW4.out)
  skip
  have HAX := Aside0.mk (show At69 v4 ⟨wr.heap.size, 0, none⟩ x A7 c7 from ⟨fun j v hj => box_cell HX4.out hj⟩)
  have HVo := Aside0.mk (Kd.R_mono (ok' := fun q => wr.heap.size ≤ q) (Kd.R_lower (base' := w.heap.size + 3) (Kd.R_bound HV4.out) (by have := HC.out.lt; have := HLO.out; omega)) (fun _ hk => Nat.le_trans HLO.out hk.2.1))
  have HKB := Aside0.mk (show (k + 1) * 80 ≤ 140737488355328 from by have := HWT.out.w2; have := HLT.out; omega)
  have HTL := Aside0.mk (take_one t.f2 z69 k hlt)
  have HLN := Aside0.mk (show (t.f2.take k).length = k from by rw [List.length_take]; omega)
  rw [HX0.out] at HTL
  clear HX4 HV4 HW4 HC HR 
  have c27 : v4.cell? ⟨w.heap.size + 1 + 1, 2, none⟩ = some (.slice B2 m2 d2) := HC4.out.db.at 2 _ rfl
  go_upto_region 5 with (first | ((with_reducible refine gate_dst (N := 28) rfl ?_); refine load69 HAX.out rfl (.tmp 5) rfl rfl ?_) | ((with_reducible refine gate_builtin (b := .append) (xs := #[.tmp 27, .tmp 29]) rfl ?_); at_builtin; refine Kd.R_append k69 (w0 := v4) (w.heap.size + 3) rfl (.tmp 27) (.tmp 29) 25 69 (.agg #[(.int .i64 0), (.int .i64 0), (.bool false), (.int .i64 0), (.int .u32 0), (.int .i64 0), (.slice none 0 0), (.int .u32 0)]) 80 rfl Try.underlying25 inf69 rfl (by decide) (by omega) _ (t.f2.take k) x [.int .i64 x.f0, .int .i64 x.f1, .bool x.f2, .int .i64 x.f3, .int .u32 x.f4, .int .i64 x.f5, .slice A7 x.f6.length c7, .int .u32 x.f7] (fun _ => True) (fun q => wr.heap.size ≤ q) rfl rfl (k69_mkM _ _ _ x HVo.out) (fun q hq => ⟨trivial, fun e => by have := HLT3.out q e.symm; omega⟩) (fun _ _ => trivial) HR4.out (Below.refl _ _) (by have := HC4.out.lt; omega) ?aL ?_; (case aL => rw [HLN.out]; exact HKB.out); intro v5 w5 HR5 HB5 HG5 HA5; rw [← HTL.out] at HR5; obtain ⟨A8, n8, c8, e8⟩ : ∃ A n c, v5 = .slice A n c := (by obtain ⟨A, c, h⟩ := Kd.R_slice HR5; exact ⟨A, _, c, h⟩); subst e8; have HC5 := Aside0.mk (HC4.out.grown (low_of HC4.out.low HB5) HT.out HG5 (own_ge HR4.out)); have HRR := Aside0.mk HR5;  have cx := HC5.out.db.at 2 _ rfl; have fx := HC5.out.db.fr 2; clear HR5 HB5 HG5 HA5))
  clear c27 HAX
  have HC6 := Aside0.mk (show CSt w (w5.setCell ⟨w.heap.size + 1 + 1, 2, none⟩ (.slice A8 n8 c8)) V t #[.int .i64 t.f0, .int .i64 t.f1, .slice A8 n8 c8, .slice V.a3 t.f3.length V.k3, .slice V.a4 t.f4.length V.k4, .slice V.a5 t.f5.length V.k5, .slice V.a6 t.f6.length V.k6, .slice V.a7 t.f7.length V.k7, .slice V.a8 t.f8.length V.k8, .int .i64 t.f9, .int .i64 t.f10, .int .i64 t.f11, .int .i64 t.f12] from HC5.out.cell HT.out 2 _)
  have HR6 := Aside0.mk (R_cp HRR.out HC5.out 2 (.slice A8 n8 c8))
  skip
  go_wp2_with fail
  go_roundg (t.f2.length - (k + 1))
  case measure => have := HLT.out; omega
  case rel => exact ⟨k + 1, A8, n8, c8, HLT.out, rfl, by go_num, HC6, HR6⟩
 have hd : decide ((k : Int) < (t.f2.length : Int)) = false := decide_eq_false (by omega)
 have HO2 := Aside0.mk (show k69.R 69 wr (w.heap.size + 3) (fun _ => True) (.slice B2 m2 d2) t.f2 from by have := HR.out; rwa [List.take_of_length_le (by omega)] at this)
 obtain rfl : m2 = t.f2.length := by
  obtain ⟨A', c', hs, _, _⟩ := Kd.R_reads HO2.out
  injection hs
 go_upto_region 9 with fail
 clear HR a2 hlt hd hk
 have a3 := HC.out.src.q3
 go_upto_region 10 with ((with_reducible refine gate_builtin (b := .append) (xs := #[.const (.slice none 0 0), .tmp 33]) rfl ?_); at_builtin; refine Kd.R_append_rows k88 (w0 := wr) (w.heap.size + 3) rfl (.const (.slice none 0 0)) (.tmp 33) 26 88 (.agg #[(.int .i64 0), (.int .i64 0)]) 16 rfl Try.underlying26 inf88 rfl (by decide) (by omega) (.slice none 0 0) [] t.f3 V.a3 t.f3.length V.k3 (fun _ => True) (fun _ => False) rfl rfl (Kd.R_nil _ _ _ _ _) HC.out.src.tb.rg (fun x cs hk => by rw [k88_open hk]; exact k88_mkM _ _ _ _) (fun _ h => h.elim) (fun _ _ => trivial) (Below.refl _ _) (by have := HC.out.lt; omega) ?hl ?_; (case hl => have := HWT.out.w3; simp only [List.length_nil]; omega); intro v5 w5 HR5 HB5 HG5 HA5; rw [List.nil_append] at HR5; obtain ⟨B3, d3, e5⟩ := Kd.R_slice HR5; subst e5; have HBN := Aside0.mk (show Below wr.heap.size wr w5 from ⟨HG5.os, HG5.tape, HG5.output, HG5.size, fun k hk => HG5.block k hk (by simp [Value.ownBlock])⟩); have HCi := Aside0.mk (HC.out.below HBN.out); have HRR := Aside0.mk HR5; have HO25 := Aside0.mk (Kd.R_below HO2.out HBN.out); have cx := HCi.out.db.at 3 _ rfl; have fx := HCi.out.db.fr 3; clear HR5 HB5 HG5 HA5)
 clear a3
 try clear cx fx
 clear HO2 HC
 have HO2 := Aside0.mk (R_cp HO25.out HCi.out 3 (.slice B3 t.f3.length d3))
 have HO3 := Aside0.mk (R_cp HRR.out HCi.out 3 (.slice B3 t.f3.length d3))
 have HC3 := Aside0.mk (show CSt w (w5.setCell ⟨w.heap.size + 1 + 1, 3, none⟩ (.slice B3 t.f3.length d3)) V t #[.int .i64 t.f0, .int .i64 t.f1, .slice B2 t.f2.length d2, .slice B3 t.f3.length d3, .slice V.a4 t.f4.length V.k4, .slice V.a5 t.f5.length V.k5, .slice V.a6 t.f6.length V.k6, .slice V.a7 t.f7.length V.k7, .slice V.a8 t.f8.length V.k8, .int .i64 t.f9, .int .i64 t.f10, .int .i64 t.f11, .int .i64 t.f12] from HCi.out.cell HT.out 3 _)
 clear HCi HRR HBN HO25
 generalize w5.setCell ⟨w.heap.size + 1 + 1, 3, none⟩ (.slice B3 t.f3.length d3) = y3 at *
 have a4 := HC3.out.src.q4
 go_upto_region 11 with ((with_reducible refine gate_builtin (b := .append) (xs := #[.const (.slice none 0 0), .tmp 37]) rfl ?_); at_builtin; refine Kd.R_append_rows k66 (w0 := y3) (w.heap.size + 3) rfl (.const (.slice none 0 0)) (.tmp 37) 27 66 (.agg #[(.bool false), (.int .i64 0)]) 16 rfl Try.underlying27 inf66 rfl (by decide) (by omega) (.slice none 0 0) [] t.f4 V.a4 t.f4.length V.k4 (fun _ => True) (fun _ => False) rfl rfl (Kd.R_nil _ _ _ _ _) HC3.out.src.tb.rs (fun x cs hk => by rw [k66_open hk]; exact k66_mkM _ _ _ _) (fun _ h => h.elim) (fun _ _ => trivial) (Below.refl _ _) (by have := HC3.out.lt; omega) ?hl ?_; (case hl => have := HWT.out.w4; simp only [List.length_nil]; omega); intro v5 w5 HR5 HB5 HG5 HA5; rw [List.nil_append] at HR5; obtain ⟨B4, d4, e5⟩ := Kd.R_slice HR5; subst e5; have HBN := Aside0.mk (show Below y3.heap.size y3 w5 from ⟨HG5.os, HG5.tape, HG5.output, HG5.size, fun k hk => HG5.block k hk (by simp [Value.ownBlock])⟩); have HCi := Aside0.mk (HC3.out.below HBN.out); have HRR := Aside0.mk HR5; have HO25 := Aside0.mk (Kd.R_below HO2.out HBN.out); have HO35 := Aside0.mk (Kd.R_below HO3.out HBN.out); have cx := HCi.out.db.at 4 _ rfl; have fx := HCi.out.db.fr 4; clear HR5 HB5 HG5 HA5)
 clear a4
 try clear cx fx
 clear HO2 HO3 HC3
 have HO2 := Aside0.mk (R_cp HO25.out HCi.out 4 (.slice B4 t.f4.length d4))
 have HO3 := Aside0.mk (R_cp HO35.out HCi.out 4 (.slice B4 t.f4.length d4))
 have HO4 := Aside0.mk (R_cp HRR.out HCi.out 4 (.slice B4 t.f4.length d4))
 have HC4 := Aside0.mk (show CSt w (w5.setCell ⟨w.heap.size + 1 + 1, 4, none⟩ (.slice B4 t.f4.length d4)) V t #[.int .i64 t.f0, .int .i64 t.f1, .slice B2 t.f2.length d2, .slice B3 t.f3.length d3, .slice B4 t.f4.length d4, .slice V.a5 t.f5.length V.k5, .slice V.a6 t.f6.length V.k6, .slice V.a7 t.f7.length V.k7, .slice V.a8 t.f8.length V.k8, .int .i64 t.f9, .int .i64 t.f10, .int .i64 t.f11, .int .i64 t.f12] from HCi.out.cell HT.out 4 _)
 clear HCi HRR HBN HO25 HO35
 generalize w5.setCell ⟨w.heap.size + 1 + 1, 4, none⟩ (.slice B4 t.f4.length d4) = y4 at *
 have a5 := HC4.out.src.q5
 go_upto_region 12 with ((with_reducible refine gate_builtin (b := .append) (xs := #[.const (.slice none 0 0), .tmp 41]) rfl ?_); at_builtin; refine Kd.R_append_rows k95 (w0 := y4) (w.heap.size + 3) rfl (.const (.slice none 0 0)) (.tmp 41) 28 95 (.agg #[(.int .u32 0), (.int .u32 0), (.int .u32 0)]) 12 rfl Try.underlying28 inf95 rfl (by decide) (by omega) (.slice none 0 0) [] t.f5 V.a5 t.f5.length V.k5 (fun _ => True) (fun _ => False) rfl rfl (Kd.R_nil _ _ _ _ _) HC4.out.src.tb.ct (fun x cs hk => by rw [k95_open hk]; exact k95_mkM _ _ _ _) (fun _ h => h.elim) (fun _ _ => trivial) (Below.refl _ _) (by have := HC4.out.lt; omega) ?hl ?_; (case hl => have := HWT.out.w5; simp only [List.length_nil]; omega); intro v5 w5 HR5 HB5 HG5 HA5; rw [List.nil_append] at HR5; obtain ⟨B5, d5, e5⟩ := Kd.R_slice HR5; subst e5; have HBN := Aside0.mk (show Below y4.heap.size y4 w5 from ⟨HG5.os, HG5.tape, HG5.output, HG5.size, fun k hk => HG5.block k hk (by simp [Value.ownBlock])⟩); have HCi := Aside0.mk (HC4.out.below HBN.out); have HRR := Aside0.mk HR5; have HO25 := Aside0.mk (Kd.R_below HO2.out HBN.out); have HO35 := Aside0.mk (Kd.R_below HO3.out HBN.out); have HO45 := Aside0.mk (Kd.R_below HO4.out HBN.out); have cx := HCi.out.db.at 5 _ rfl; have fx := HCi.out.db.fr 5; clear HR5 HB5 HG5 HA5)
 clear a5
 try clear cx fx
 clear HO2 HO3 HO4 HC4
 have HO2 := Aside0.mk (R_cp HO25.out HCi.out 5 (.slice B5 t.f5.length d5))
 have HO3 := Aside0.mk (R_cp HO35.out HCi.out 5 (.slice B5 t.f5.length d5))
 have HO4 := Aside0.mk (R_cp HO45.out HCi.out 5 (.slice B5 t.f5.length d5))
 have HO5 := Aside0.mk (R_cp HRR.out HCi.out 5 (.slice B5 t.f5.length d5))
 have HC5 := Aside0.mk (show CSt w (w5.setCell ⟨w.heap.size + 1 + 1, 5, none⟩ (.slice B5 t.f5.length d5)) V t #[.int .i64 t.f0, .int .i64 t.f1, .slice B2 t.f2.length d2, .slice B3 t.f3.length d3, .slice B4 t.f4.length d4, .slice B5 t.f5.length d5, .slice V.a6 t.f6.length V.k6, .slice V.a7 t.f7.length V.k7, .slice V.a8 t.f8.length V.k8, .int .i64 t.f9, .int .i64 t.f10, .int .i64 t.f11, .int .i64 t.f12] from HCi.out.cell HT.out 5 _)
 clear HCi HRR HBN HO25 HO35 HO45
 generalize w5.setCell ⟨w.heap.size + 1 + 1, 5, none⟩ (.slice B5 t.f5.length d5) = y5 at *
 have a6 := HC5.out.src.q6
 go_upto_region 13 with ((with_reducible refine gate_builtin (b := .append) (xs := #[.const (.slice none 0 0), .tmp 45]) rfl ?_); at_builtin; refine Kd.R_append_rows k102 (w0 := y5) (w.heap.size + 3) rfl (.const (.slice none 0 0)) (.tmp 45) 29 102 (.agg #[(.int .i64 0), (.int .i64 0), (.int .i64 0), (.int .u32 0), (.int .u32 0), (.int .u32 0), (.int .u32 0)]) 48 rfl Try.underlying29 inf102 rfl (by decide) (by omega) (.slice none 0 0) [] t.f6 V.a6 t.f6.length V.k6 (fun _ => True) (fun _ => False) rfl rfl (Kd.R_nil _ _ _ _ _) HC5.out.src.tb.al (fun x cs hk => by rw [k102_open hk]; exact k102_mkM _ _ _ _) (fun _ h => h.elim) (fun _ _ => trivial) (Below.refl _ _) (by have := HC5.out.lt; omega) ?hl ?_; (case hl => have := HWT.out.w6; simp only [List.length_nil]; omega); intro v5 w5 HR5 HB5 HG5 HA5; rw [List.nil_append] at HR5; obtain ⟨B6, d6, e5⟩ := Kd.R_slice HR5; subst e5; have HBN := Aside0.mk (show Below y5.heap.size y5 w5 from ⟨HG5.os, HG5.tape, HG5.output, HG5.size, fun k hk => HG5.block k hk (by simp [Value.ownBlock])⟩); have HCi := Aside0.mk (HC5.out.below HBN.out); have HRR := Aside0.mk HR5; have HO25 := Aside0.mk (Kd.R_below HO2.out HBN.out); have HO35 := Aside0.mk (Kd.R_below HO3.out HBN.out); have HO45 := Aside0.mk (Kd.R_below HO4.out HBN.out); have HO55 := Aside0.mk (Kd.R_below HO5.out HBN.out); have cx := HCi.out.db.at 6 _ rfl; have fx := HCi.out.db.fr 6; clear HR5 HB5 HG5 HA5)
 clear a6
 try clear cx fx
 clear HO2 HO3 HO4 HO5 HC5
 have HO2 := Aside0.mk (R_cp HO25.out HCi.out 6 (.slice B6 t.f6.length d6))
 have HO3 := Aside0.mk (R_cp HO35.out HCi.out 6 (.slice B6 t.f6.length d6))
 have HO4 := Aside0.mk (R_cp HO45.out HCi.out 6 (.slice B6 t.f6.length d6))
 have HO5 := Aside0.mk (R_cp HO55.out HCi.out 6 (.slice B6 t.f6.length d6))
 have HO6 := Aside0.mk (R_cp HRR.out HCi.out 6 (.slice B6 t.f6.length d6))
 have HC6 := Aside0.mk (show CSt w (w5.setCell ⟨w.heap.size + 1 + 1, 6, none⟩ (.slice B6 t.f6.length d6)) V t #[.int .i64 t.f0, .int .i64 t.f1, .slice B2 t.f2.length d2, .slice B3 t.f3.length d3, .slice B4 t.f4.length d4, .slice B5 t.f5.length d5, .slice B6 t.f6.length d6, .slice V.a7 t.f7.length V.k7, .slice V.a8 t.f8.length V.k8, .int .i64 t.f9, .int .i64 t.f10, .int .i64 t.f11, .int .i64 t.f12] from HCi.out.cell HT.out 6 _)
 clear HCi HRR HBN HO25 HO35 HO45 HO55
 generalize w5.setCell ⟨w.heap.size + 1 + 1, 6, none⟩ (.slice B6 t.f6.length d6) = y6 at *
 have cc : y6.cell? ⟨w.heap.size + 1 + 1, 7, none⟩ = some (.slice V.a7 t.f7.length V.k7) := HC6.out.db.at 7 _ rfl
 have ff := HC6.out.db.fr 7
 go_upto_region 14 with fail
 clear cc ff
 have HC7 := Aside0.mk (show CSt w (y6.setCell ⟨w.heap.size + 1 + 1, 7, none⟩ (.slice none 0 0)) V t #[.int .i64 t.f0, .int .i64 t.f1, .slice B2 t.f2.length d2, .slice B3 t.f3.length d3, .slice B4 t.f4.length d4, .slice B5 t.f5.length d5, .slice B6 t.f6.length d6, .slice none 0 0, .slice V.a8 t.f8.length V.k8, .int .i64 t.f9, .int .i64 t.f10, .int .i64 t.f11, .int .i64 t.f12] from HC6.out.cell HT.out 7 _)
 replace HO2 := Aside0.mk (R_cp HO2.out HC6.out 7 (.slice none 0 0))
 replace HO3 := Aside0.mk (R_cp HO3.out HC6.out 7 (.slice none 0 0))
 replace HO4 := Aside0.mk (R_cp HO4.out HC6.out 7 (.slice none 0 0))
 replace HO5 := Aside0.mk (R_cp HO5.out HC6.out 7 (.slice none 0 0))
 replace HO6 := Aside0.mk (R_cp HO6.out HC6.out 7 (.slice none 0 0))
 clear HC6
 generalize y6.setCell ⟨w.heap.size + 1 + 1, 7, none⟩ (.slice none 0 0) = y7 at *
 have HR0 := Aside0.mk (show k107.R 107 y7 (w.heap.size + 3) (fun _ => True) (.slice none 0 0) (t.f7.take 0) from Kd.R_nil _ _ _ _ _)
 go_wp2_with fail
 go_loopg [6] t.f7.length (fun g i wr => ∃ (k : Nat) (B7 : Option Addr) (m7 d7 : Nat), k ≤ t.f7.length ∧ g = t.f7.length - k ∧ i = .int .i64 k ∧ Aside0 (CSt w wr V t #[.int .i64 t.f0, .int .i64 t.f1, .slice B2 t.f2.length d2, .slice B3 t.f3.length d3, .slice B4 t.f4.length d4, .slice B5 t.f5.length d5, .slice B6 t.f6.length d6, .slice B7 m7 d7, .slice V.a8 t.f8.length V.k8, .int .i64 t.f9, .int .i64 t.f10, .int .i64 t.f11, .int .i64 t.f12]) ∧ Aside0 (k107.R 107 wr (w.heap.size + 3) (fun _ => True) (.slice B7 m7 d7) (t.f7.take k)) ∧ Aside0 (k69.R 69 wr (w.heap.size + 3) (fun _ => True) (.slice B2 t.f2.length d2) t.f2) ∧ Aside0 (k88.R 88 wr (w.heap.size + 3) (fun _ => True) (.slice B3 t.f3.length d3) t.f3) ∧ Aside0 (k66.R 66 wr (w.heap.size + 3) (fun _ => True) (.slice B4 t.f4.length d4) t.f4) ∧ Aside0 (k95.R 95 wr (w.heap.size + 3) (fun _ => True) (.slice B5 t.f5.length d5) t.f5) ∧ Aside0 (k102.R 102 wr (w.heap.size + 3) (fun _ => True) (.slice B6 t.f6.length d6) t.f6))
 case atStart => exact ⟨0, none, 0, 0, by omega, rfl, rfl, HC7, HR0, HO2, HO3, HO4, HO5, HO6⟩
 case round =>
 clear HC7 HR0 HO2 HO3 HO4 HO5 HO6
 obtain ⟨k, B7, m7, d7, hk, rfl, rfl, HC, HR, HO2, HO3, HO4, HO5, HO6⟩ := hrel
 have a2 := HC.out.src.q7
 by_cases hlt : k < t.f7.length
 case pos =>
  have hd : decide ((k : Int) < (t.f7.length : Int)) = true := decide_eq_true (by omega)
  have hbd := HC.out.src.tb.bd.ir
  have HLT := Aside0.mk hlt
  obtain ⟨x, ad, A6, c6, hx0, eA, HA0, l6, g6⟩ := isr_at HC.out.src.tb.ir k hlt
  have HAX := Aside0.mk HA0
  have HX0 := Aside0.mk hx0
  have HOX := Aside0.mk (HWT.out.o7 x (by rw [← hx0]; exact getD_mem hlt))
  have B1 := below_a wr (.cells #[.int .i64 x.f0, .int .i64 x.f1, .slice A6 x.f2.length c6] 107)
  have HXB := Aside0.mk (heap_alloc_new wr (.cells #[.int .i64 x.f0, .int .i64 x.f1, .slice A6 x.f2.length c6] 107))
  have HGX := Aside0.mk (Kd.C_below g6 B1)
  have HB1 := Aside0.mk B1
  rw [eA] at a2
  clear hx0 eA HA0 l6 g6 B1
  go_upto_region 18 with (first | ((with_reducible refine gate_dst (N := 60) rfl ?_); refine load107 HAX.out rfl (.tmp 59) rfl rfl ?_) | (refine store107 (by rfl) #[.int .i64 x.f0, .int .i64 x.f1, .slice A6 x.f2.length c6] (by rfl) (by simp [Value.oneCell']) (by rfl) (.tmp 7) (.tmp 60) (by rfl) (by rfl) (by rfl) (by rfl) ?_))
  clear a2 HAX
  generalize wr.alloc (.cells #[.int .i64 x.f0, .int .i64 x.f1, .slice A6 x.f2.length c6] 107) = v1 at *
  have hx6 : v1.cell? ⟨wr.heap.size, 2, none⟩ = some (.slice A6 x.f2.length c6) := (show ZBox v1 wr.heap.size #[.int .i64 x.f0, .int .i64 x.f1, .slice A6 x.f2.length c6] 107 from HXB.out).at 2 _ rfl
  go_upto_region 19 with ((with_reducible refine gate_builtin (b := .append) (xs := #[.const (.slice none 0 0), .tmp 62]) rfl ?_); at_builtin; refine Kd.R_append_row (w0 := v1) (Value.int .i64) (0 : Int) v1.heap.size rfl _ _ 48 3 (.int .i64 0) 8 rfl Try.underlying48 info3 rfl (by omega) (.slice none 0 0) [] x.f2 A6 x.f2.length c6 (fun _ => True) rfl rfl (fun _ _ => trivial) (Kd.R_nil _ _ _ _ _) HGX.out (Below.refl _ _) (Nat.le_refl _) ?hl ?_; (case hl => have := HOX.out; simp only [List.length_nil]; omega); intro v2 v3 HR2 HB2 HG2 HA2; rw [List.nil_append] at HR2; obtain ⟨A7, c7, e7⟩ := Kd.R_slice HR2; subst e7; have HV2 := Aside0.mk HR2; have HBV := Aside0.mk HB2; have HXV := Aside0.mk ((HB2.block wr.heap.size (blk_lt HXB.out)).trans HXB.out); have cx := (show ZBox v3 wr.heap.size #[.int .i64 x.f0, .int .i64 x.f1, .slice A6 x.f2.length c6] 107 from HXV.out).at 2 _ rfl; have fx := (show ZBox v3 wr.heap.size #[.int .i64 x.f0, .int .i64 x.f1, .slice A6 x.f2.length c6] 107 from HXV.out).fr 2; clear HR2 HB2 HG2 HA2)
  clear hx6
  have e4 := setCell_eq_setRow v3 wr.heap.size 2 #[.int .i64 x.f0, .int .i64 x.f1, .slice A6 x.f2.length c6] 107 (0, 0) (.slice A7 x.f2.length c7) HXV.out
  have HX4 := Aside0.mk (show ZBox (v3.setCell ⟨wr.heap.size, 2, none⟩ (.slice A7 x.f2.length c7)) wr.heap.size #[.int .i64 x.f0, .int .i64 x.f1, .slice A7 x.f2.length c7] 107 from by rw [e4]; exact ZBox.row HXV.out _)
  have HV4 := Aside0.mk (show (Kd.int .i64).R 3 (v3.setCell ⟨wr.heap.size, 2, none⟩ (.slice A7 x.f2.length c7)) v1.heap.size (fun _ => True) (.slice A7 x.f2.length c7) x.f2 from by rw [e4]; exact R_only HV2.out (grown_row v3 wr.heap.size _) (blk_lt HXB.out))
  have HW4 := Aside0.mk (show Below wr.heap.size wr (v3.setCell ⟨wr.heap.size, 2, none⟩ (.slice A7 x.f2.length c7)) from (HB1.out.trans (HBV.out.mono HB1.out.size)).setCell (p := ⟨wr.heap.size, 2, none⟩) (Nat.le_refl _) _)
  have HLO := Aside0.mk (show wr.heap.size ≤ v1.heap.size from HB1.out.size)
  have HLT3 := Aside0.mk (fun (b : Nat) (hb : (Value.slice B7 m7 d7).ownBlock = some b) => Kd.R_lt HR.out b hb)
  clear e4 HXV HV2 HBV HB1 HXB HGX
  generalize v3.setCell ⟨wr.heap.size, 2, none⟩ (.slice A7 x.f2.length c7) = v4 at *
  have HC4 := Aside0.mk (HC.out.below HW4.out)
  have HR4 := Aside0.mk (Kd.R_below HR.out HW4.out)
  have HO24 := Aside0.mk (Kd.R_below HO2.out HW4.out)
  have HO34 := Aside0.mk (Kd.R_below HO3.out HW4.out)
  have HO44 := Aside0.mk (Kd.R_below HO4.out HW4.out)
  have HO54 := Aside0.mk (Kd.R_below HO5.out HW4.out)
  have HO64 := Aside0.mk (Kd.R_below HO6.out HW4.out)
  have HAX := Aside0.mk (show At107 v4 ⟨wr.heap.size, 0, none⟩ x A7 c7 from ⟨fun j v hj => box_cell HX4.out hj⟩)
  have HVo := Aside0.mk (Kd.R_mono (ok' := fun q => wr.heap.size ≤ q) (Kd.R_lower (base' := w.heap.size + 3) (Kd.R_bound HV4.out) (by have := HC.out.lt; have := HLO.out; omega)) (fun _ hk => Nat.le_trans HLO.out hk.2.1))
  have HKB := Aside0.mk (show (k + 1) * 40 ≤ 140737488355328 from by have := HWT.out.w7; have := HLT.out; omega)
  have HTL := Aside0.mk (take_one t.f7 z107 k hlt)
  have HLN := Aside0.mk (show (t.f7.take k).length = k from by rw [List.length_take]; omega)
  rw [HX0.out] at HTL
  clear HX4 HV4 HW4 HC HR HO2 HO3 HO4 HO5 HO6
  have c27 : v4.cell? ⟨w.heap.size + 1 + 1, 7, none⟩ = some (.slice B7 m7 d7) := HC4.out.db.at 7 _ rfl
  go_upto_region 16 with (first | ((with_reducible refine gate_dst (N := 67) rfl ?_); refine load107 HAX.out rfl (.tmp 7) rfl rfl ?_) | ((with_reducible refine gate_builtin (b := .append) (xs := #[.tmp 66, .tmp 68]) rfl ?_); at_builtin; refine Kd.R_append k107 (w0 := v4) (w.heap.size + 3) rfl (.tmp 66) (.tmp 68) 30 107 (.agg #[(.int .i64 0), (.int .i64 0), (.slice none 0 0)]) 40 rfl Try.underlying30 inf107 rfl (by decide) (by omega) _ (t.f7.take k) x [.int .i64 x.f0, .int .i64 x.f1, .slice A7 x.f2.length c7] (fun _ => True) (fun q => wr.heap.size ≤ q) rfl rfl (k107_mkM _ _ _ x HVo.out) (fun q hq => ⟨trivial, fun e => by have := HLT3.out q e.symm; omega⟩) (fun _ _ => trivial) HR4.out (Below.refl _ _) (by have := HC4.out.lt; omega) ?aL ?_; (case aL => rw [HLN.out]; exact HKB.out); intro v5 w5 HR5 HB5 HG5 HA5; rw [← HTL.out] at HR5; obtain ⟨A8, n8, c8, e8⟩ : ∃ A n c, v5 = .slice A n c := (by obtain ⟨A, c, h⟩ := Kd.R_slice HR5; exact ⟨A, _, c, h⟩); subst e8; have HC5 := Aside0.mk (HC4.out.grown (low_of HC4.out.low HB5) HT.out HG5 (own_ge HR4.out)); have HRR := Aside0.mk HR5; have HO25 := Aside0.mk (R_beside HO24.out HR4.out HG5 (by decide)); have HO35 := Aside0.mk (R_beside HO34.out HR4.out HG5 (by decide)); have HO45 := Aside0.mk (R_beside HO44.out HR4.out HG5 (by decide)); have HO55 := Aside0.mk (R_beside HO54.out HR4.out HG5 (by decide)); have HO65 := Aside0.mk (R_beside HO64.out HR4.out HG5 (by decide)); have cx := HC5.out.db.at 7 _ rfl; have fx := HC5.out.db.fr 7; clear HR5 HB5 HG5 HA5))
  clear c27 HAX
  have HC6 := Aside0.mk (show CSt w (w5.setCell ⟨w.heap.size + 1 + 1, 7, none⟩ (.slice A8 n8 c8)) V t #[.int .i64 t.f0, .int .i64 t.f1, .slice B2 t.f2.length d2, .slice B3 t.f3.length d3, .slice B4 t.f4.length d4, .slice B5 t.f5.length d5, .slice B6 t.f6.length d6, .slice A8 n8 c8, .slice V.a8 t.f8.length V.k8, .int .i64 t.f9, .int .i64 t.f10, .int .i64 t.f11, .int .i64 t.f12] from HC5.out.cell HT.out 7 _)
  have HR6 := Aside0.mk (R_cp HRR.out HC5.out 7 (.slice A8 n8 c8))
  have HO26 := Aside0.mk (R_cp HO25.out HC5.out 7 (.slice A8 n8 c8))
  have HO36 := Aside0.mk (R_cp HO35.out HC5.out 7 (.slice A8 n8 c8))
  have HO46 := Aside0.mk (R_cp HO45.out HC5.out 7 (.slice A8 n8 c8))
  have HO56 := Aside0.mk (R_cp HO55.out HC5.out 7 (.slice A8 n8 c8))
  have HO66 := Aside0.mk (R_cp HO65.out HC5.out 7 (.slice A8 n8 c8))
  go_wp2_with fail
  go_roundg (t.f7.length - (k + 1))
  case measure => have := HLT.out; omega
  case rel => exact ⟨k + 1, A8, n8, c8, HLT.out, rfl, by go_num, HC6, HR6, HO26, HO36, HO46, HO56, HO66⟩
 have hd : decide ((k : Int) < (t.f7.length : Int)) = false := decide_eq_false (by omega)
 have HO7 := Aside0.mk (show k107.R 107 wr (w.heap.size + 3) (fun _ => True) (.slice B7 m7 d7) t.f7 from by have := HR.out; rwa [List.take_of_length_le (by omega)] at this)
 obtain rfl : m7 = t.f7.length := by
  obtain ⟨A', c', hs, _, _⟩ := Kd.R_reads HO7.out
  injection hs
 go_upto_region 20 with fail
 clear HR a2 hlt hd hk
 have a8 := HC.out.src.q8
 go_upto_region 21 with ((with_reducible refine gate_builtin (b := .append) (xs := #[.const (.slice none 0 0), .tmp 72]) rfl ?_); at_builtin; refine Kd.R_append_rows k113 (w0 := wr) (w.heap.size + 3) rfl (.const (.slice none 0 0)) (.tmp 72) 31 113 (.agg #[(.int .i64 0), (.int .i64 0), (.int .i64 0), (.int .u64 0), (.int .i64 0), (.int .i64 0), (.int .i64 0), (.int .u32 0)]) 64 rfl Try.underlying31 inf113 rfl (by decide) (by omega) (.slice none 0 0) [] t.f8 V.a8 t.f8.length V.k8 (fun _ => True) (fun _ => False) rfl rfl (Kd.R_nil _ _ _ _ _) HC.out.src.tb.mg (fun x cs hk => by rw [k113_open hk]; exact k113_mkM _ _ _ _) (fun _ h => h.elim) (fun _ _ => trivial) (Below.refl _ _) (by have := HC.out.lt; omega) ?hl ?_; (case hl => have := HWT.out.w8; simp only [List.length_nil]; omega); intro v5 w5 HR5 HB5 HG5 HA5; rw [List.nil_append] at HR5; obtain ⟨B8, d8, e5⟩ := Kd.R_slice HR5; subst e5; have HBN := Aside0.mk (show Below wr.heap.size wr w5 from ⟨HG5.os, HG5.tape, HG5.output, HG5.size, fun k hk => HG5.block k hk (by simp [Value.ownBlock])⟩); have HCi := Aside0.mk (HC.out.below HBN.out); have HRR := Aside0.mk HR5; have HO25 := Aside0.mk (Kd.R_below HO2.out HBN.out); have HO35 := Aside0.mk (Kd.R_below HO3.out HBN.out); have HO45 := Aside0.mk (Kd.R_below HO4.out HBN.out); have HO55 := Aside0.mk (Kd.R_below HO5.out HBN.out); have HO65 := Aside0.mk (Kd.R_below HO6.out HBN.out); have HO75 := Aside0.mk (Kd.R_below HO7.out HBN.out); have cx := HCi.out.db.at 8 _ rfl; have fx := HCi.out.db.fr 8; clear HR5 HB5 HG5 HA5)
 clear a8
 try clear cx fx
 clear HO2 HO3 HO4 HO5 HO6 HO7 HC
 have HO2 := Aside0.mk (R_cp HO25.out HCi.out 8 (.slice B8 t.f8.length d8))
 have HO3 := Aside0.mk (R_cp HO35.out HCi.out 8 (.slice B8 t.f8.length d8))
 have HO4 := Aside0.mk (R_cp HO45.out HCi.out 8 (.slice B8 t.f8.length d8))
 have HO5 := Aside0.mk (R_cp HO55.out HCi.out 8 (.slice B8 t.f8.length d8))
 have HO6 := Aside0.mk (R_cp HO65.out HCi.out 8 (.slice B8 t.f8.length d8))
 have HO7 := Aside0.mk (R_cp HO75.out HCi.out 8 (.slice B8 t.f8.length d8))
 have HO8 := Aside0.mk (R_cp HRR.out HCi.out 8 (.slice B8 t.f8.length d8))
 have HC8 := Aside0.mk (show CSt w (w5.setCell ⟨w.heap.size + 1 + 1, 8, none⟩ (.slice B8 t.f8.length d8)) V t #[.int .i64 t.f0, .int .i64 t.f1, .slice B2 t.f2.length d2, .slice B3 t.f3.length d3, .slice B4 t.f4.length d4, .slice B5 t.f5.length d5, .slice B6 t.f6.length d6, .slice B7 t.f7.length d7, .slice B8 t.f8.length d8, .int .i64 t.f9, .int .i64 t.f10, .int .i64 t.f11, .int .i64 t.f12] from HCi.out.cell HT.out 8 _)
 clear HCi HRR HBN HO25 HO35 HO45 HO55 HO65 HO75
 generalize w5.setCell ⟨w.heap.size + 1 + 1, 8, none⟩ (.slice B8 t.f8.length d8) = y8 at *
 have HRW := Aside0.mk (show DecRows (w.heap.size + 3) y8 (⟨B2, B3, B4, B5, B6, B7, B8, d2, d3, d4, d5, d6, d7, d8⟩ : TV) t from ⟨HO2.out, HO3.out, HO4.out, HO5.out, HO6.out, HO7.out, HO8.out⟩)
 have HAT := Aside0.mk (show At y8 (w.heap.size + 1 + 1) (⟨B2, B3, B4, B5, B6, B7, B8, d2, d3, d4, d5, d6, d7, d8⟩ : TV) t from ⟨HC8.out.db, tb_of HRW.out HT.out.bd⟩)
 have HZ8 := Aside0.mk (ZBox.row HC8.out.zb (arr (⟨B2, B3, B4, B5, B6, B7, B8, d2, d3, d4, d5, d6, d7, d8⟩ : TV) t))
 have HW8 := Aside0.mk (show Below w.heap.size w (y8.setRow (w.heap.size + 1) (arr (⟨B2, B3, B4, B5, B6, B7, B8, d2, d3, d4, d5, d6, d7, d8⟩ : TV) t)) from HC8.out.low.trans ⟨rfl, rfl, rfl, by rw [setRow_size]; exact Nat.le_refl _, fun k hk => setRow_other y8 _ k _ (by omega)⟩)
 have HR8 := Aside0.mk (HRW.out.only (grown_row y8 (w.heap.size + 1) (arr (⟨B2, B3, B4, B5, B6, B7, B8, d2, d3, d4, d5, d6, d7, d8⟩ : TV) t)) (by omega))
 go_wp2_with (first | ((with_reducible refine gate_dst (N := 75) rfl ?_); refine load33 HAT.out rfl (.tmp 3) rfl rfl ?_) | (refine wpList_store_row rfl 33 (.tmp 2) (.tmp 75) rfl (w.heap.size + 1) (arr (⟨B2, B3, B4, B5, B6, B7, B8, d2, d3, d4, d5, d6, d7, d8⟩ : TV) t) rfl rfl 33 _ HC8.out.zb (by kernel_rfl) rfl (by simp [arr, Value.oneCell']) ?_))
 (try simp only [Exit.inBlock, Exit.then])
 refine bodyPost_ret (results_cell_row rfl _ _ (w.heap.size + 1) 33 (arr (⟨B2, B3, B4, B5, B6, B7, B8, d2, d3, d4, d5, d6, d7, d8⟩ : TV) t) (0, 0) _ rfl HZ8.out Try.underlying33 rfl (by kernel_rfl)) rfl ?_
 exact ⟨(⟨B2, B3, B4, B5, B6, B7, B8, d2, d3, d4, d5, d6, d7, d8⟩ : TV), rfl, HR8.out.lower (by omega), HW8.out⟩
end Go.Proofs.Ytbgcemijihpakaa.XA
