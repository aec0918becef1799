/- image.Parts: the walk. -/
import Derived.Test.YtbgcemijihpakaaG37
namespace Go.Proofs.Ytbgcemijihpakaa.XA
set_option linter.unusedVariables false
set_option linter.unusedSimpArgs false
open Go.RowKit Go.WideMaps Go.Maps Go.Proofs.YtbgcemijihpakaaW.PrintWords Go.Proofs.YtbgcemijihpakaaW.PrintLast Go.Proofs.YtbgcemijihpakaaW.PrintMore
/-- what Parts answers -/
def PartOut (b : List Int) (w : World) (e : Ending) (w' : World) : Prop :=
 Below w.heap.size w w' ∧ match imgP b with
  | .error c => e = .returned (.tuple #[.slice none 0 0, .int .i64 c])
  | .ok t => ∃ v, e = .returned (.tuple #[v, .int .i64 0]) ∧ k51.R 51 w' w.heap.size (fun _ => True) v (partsL t b.length)
theorem PartOut.no {b : List Int} {w w' : World} {e : Ending} {c : Int} (h : imgP b = .error c) (hb : Below w.heap.size w w') (he : e = .returned (.tuple #[.slice none 0 0, .int .i64 c])) : PartOut b w e w' := by
 unfold PartOut
 rw [h]
 exact ⟨hb, he⟩
theorem PartOut.yes {b : List Int} {w w' : World} {e : Ending} {t : S33} (h : imgP b = .ok t) (hb : Below w.heap.size w w') (v : Value) (he : e = .returned (.tuple #[v, .int .i64 0])) (hr : k51.R 51 w' w.heap.size (fun _ => True) v (partsL t b.length)) : PartOut b w e w' := by
 unfold PartOut
 rw [h]
 exact ⟨hb, v, he, hr⟩
theorem dec_no {b : List Int} {w w' : World} {e : Ending} {c : Int} (h : imgP b = .error c) (hd : DecOut b w e w') : Below w.heap.size w w' ∧ e = .returned (.tuple #[.agg z33A, .int .i64 c]) := by
 unfold DecOut at hd
 rw [h] at hd
 exact hd
theorem dec_yes {b : List Int} {w w' : World} {e : Ending} {t : S33} (h : imgP b = .ok t) (hd : DecOut b w e w') : Below w.heap.size w w' ∧ ∃ V, e = .returned (.tuple #[.agg (arr V t), .int .i64 0]) ∧ DecRows w.heap.size w' V t := by
 unfold DecOut at hd
 rw [h] at hd
 exact hd
theorem bd_of {t : S33} (h : Small t) : Bd t := by
 have := h.n2; have := h.n3; have := h.n4; have := h.n5; have := h.n6; have := h.n7; have := h.n8
 exact ⟨by omega, by omega, by omega, by omega, by omega, by omega, by omega⟩
theorem row_cell {w : World} {e q : Nat} {A : Option Addr} {n c : Nat} {ns : List Int} (h : (Kd.int .i64).R e w q (fun _ => True) (.slice A n c) ns) {k : Nat} (hk : k < ns.length) : ∃ ad, A = some ad ∧ n = ns.length ∧ ∀ j, j < ns.length → w.cell? (ad.add j) = some (.int .i64 (ns.getD j 0)) := by
 obtain ⟨A', c', hs, _, hC⟩ := Kd.R_reads h
 injection hs with hs h2 h3
 subst hs
 obtain ⟨ad, e, h⟩ := (Kd.reads_of_C (d := (0 : Int)) hC).2.2 (by omega)
 exact ⟨ad, e, h2, h⟩
theorem one_row {w : World} {base : Nat} (x : S51) (hb : base ≤ w.heap.size) : k51.R 51 (w.alloc (.cells #[.int .i64 x.f0, .int .i64 x.f1, .int .i64 x.f2, .int .i64 x.f3] 51)) base (fun _ => True) (.slice (some ⟨w.heap.size, 0, none⟩) 1 1) [x] := by
 have h2 := World.ownsRow_lit (base := base) (e := 51) (size := 4) w #[.int .i64 x.f0, .int .i64 x.f1, .int .i64 x.f2, .int .i64 x.f3] 1 hb (by simp [maxLen]) (by simp)
 refine ⟨fun _ _ => trivial, _, h2, ?_⟩
 refine Reps.snoc (ps := []) (cs := []) (Reps.none _ _) ?_ rfl
 exact k51_mkM _ _ _ x
theorem mk_step (t : S33) (i : Nat) : partRow t i = ⟨(i : Int) + 2, 28 + mk t i, mk t (i + 1) - mk t i, (cntsL t).getD i 0⟩ := rfl
/-- where the loop over the parts stands -/
structure PSt (w wr : World) (B0 : Nat) (V : TV) (t : S33) (v : Value) (k : Nat) (Au An : Option Addr) (cu cn K : Nat) : Prop where
 low : Below w.heap.size w wr
 row : k51.R 51 wr w.heap.size (fun _ => True) v (partsN t k)
 at_ : (Kd.int .i64).R 3 wr 0 (fun _ => True) (.slice Au (marks 0 (parts t)).length cu) (marks 0 (parts t))
 cn : (Kd.int .i64).R 3 wr 0 (fun _ => True) (.slice An (cntsL t).length cn) (cntsL t)
 ks : wr.heap[K]? = some (.cells #[.int .i64 2, .int .i64 3, .int .i64 4, .int .i64 5, .int .i64 6, .int .i64 7, .int .i64 8] 49 (0, 0))
theorem PSt.kcell {w wr : World} {B0 : Nat} {V : TV} {t : S33} {v : Value} {k : Nat} {Au An : Option Addr} {cu cn K : Nat} (h : PSt w wr B0 V t v k Au An cu cn K) {j : Nat} (hj : j < 7) : wr.cell? ⟨K, j, none⟩ = some (.int .i64 ((j : Int) + 2)) := by
 simp only [World.cell?, h.ks]
 rcases (by omega : j = 0 ∨ j = 1 ∨ j = 2 ∨ j = 3 ∨ j = 4 ∨ j = 5 ∨ j = 6) with rfl | rfl | rfl | rfl | rfl | rfl | rfl <;> rfl
theorem PSt.below {w wr w2 : World} {B0 : Nat} {V : TV} {t : S33} {v : Value} {k : Nat} {Au An : Option Addr} {cu cn K : Nat} (h : PSt w wr B0 V t v k Au An cu cn K) (hb : Below wr.heap.size wr w2) : PSt w w2 B0 V t v k Au An cu cn K :=
 ⟨h.low.trans (hb.mono h.low.size), Kd.R_below h.row hb, Kd.R_below h.at_ hb, Kd.R_below h.cn hb, (hb.block K (blk_lt h.ks)).trans h.ks⟩
theorem PSt.next {w wr w2 : World} {B0 : Nat} {V : TV} {t : S33} {v v2 : Value} {k : Nat} {Au An : Option Addr} {cu cn K : Nat} (h : PSt w wr B0 V t v k Au An cu cn K) (hb : Below w.heap.size w w2) (hg : wr.grownBy w2 v.ownBlock) (hr : k51.R 51 w2 w.heap.size (fun _ => True) v2 (partsN t (k + 1))) : PSt w w2 B0 V t v2 (k + 1) Au An cu cn K := by
 have ty : ∀ q, v.ownBlock = some q → ∃ cs, wr.heap[q]? = some (.cells cs 51 (0, 0)) := fun q hq => by
  obtain ⟨_, inner, ho, _⟩ := h.row
  exact own_typed ho q hq
 have ne : ∀ q cs T, T ≠ 51 → wr.heap[q]? = some (.cells cs T (0, 0)) → some q ≠ v.ownBlock := fun q cs T hT hq e => by
  obtain ⟨cs2, h2⟩ := ty q e.symm
  exact hT (ty_ne hq h2)
 refine ⟨hb, hr, row_kept h.at_ (fun q hq ho => hg.block q hq ?_), row_kept h.cn (fun q hq ho => hg.block q hq ?_), (hg.block K (blk_lt h.ks) (ne _ _ _ (by decide) h.ks)).trans h.ks⟩
 ·obtain ⟨cs, hc⟩ := own_ty h.at_ ho
  exact ne _ _ _ (by decide) hc
 ·obtain ⟨cs, hc⟩ := own_ty h.cn ho
  exact ne _ _ _ (by decide) hc
set_option maxRecDepth 1000000 in
set_option maxHeartbeats 4000000 in
theorem parts_calls (A : Option Addr) (c : Nat) (b : List Int) (w : World) (hC : (Kd.int .u8).C w A b.length b) (hc : b.length ≤ c) (hB : ∀ x ∈ b, 0 ≤ x ∧ x ≤ 255) :
  Calls Try.prog 17 #[.slice A b.length c] w fun e w' => PartOut b w e w' := by
 have HC := Aside0.mk hC
 have HCC := Aside0.mk hc
 have HBY := Aside0.mk hB
 have HLB := Aside0.mk hC.2.1
 clear hC hc hB
 rcases hp : imgP b with er | t
 ·have HP := Aside0.mk hp
  have hne := imgP_err hp
  clear hp
  go_enter Try.func17, Try.ntmps17
  go_wp2_with fail
  refine (dec_calls A c b w HC.out HCC.out HBY.out).mono ?_
  rintro e w1 hd
  obtain ⟨hb, rfl⟩ := dec_no HP.out hd
  have HB1 := Aside0.mk hb
  clear hd hb
  have h1 : ¬ er = 0 := hne
  have h2 : (er == 0) = false := beq_eq_false_iff_ne.mpr hne
  have h3 : (er != 0) = true := bne_iff_ne.mpr hne
  go_wp2_with fail
  go_ret2
  exact PartOut.no HP.out (HB1.out.trans ((below_a w1 _).mono HB1.out.size)) rfl
 have HP := Aside0.mk hp
 have HTY := Aside0.mk (img_ty HBY.out hp)
 have HOK := Aside0.mk (tabE_ok (img_inv HBY.out hp).ok)
 have HSM := Aside0.mk (small_of HOK.out HTY.out)
 clear hp
 go_enter Try.func17, Try.ntmps17
 go_wp2_with fail
 refine (dec_calls A c b w HC.out HCC.out HBY.out).mono ?_
 rintro e w1 hd
 obtain ⟨hb, V, rfl, hr⟩ := dec_yes HP.out hd
 have HB1 := Aside0.mk hb
 have HRW := Aside0.mk hr
 clear hd hb hr
 have HT := Aside0.mk (tb_of HRW.out (bd_of HSM.out))
 have HS := Aside0.mk (At.made HT.out)
 have HBa := Aside0.mk (below_a w1 (.cells (arr V t) 33))
 unfold arr at HS HBa ⊢
 go_upto_region 4 with fail
 obtain ⟨B0, hB0⟩ : ∃ Q, Q = w1.heap.size := ⟨_, rfl⟩
 rw [← hB0] at HS ⊢
 have HB0 := Aside0.mk (show w.heap.size ≤ B0 from by rw [hB0]; exact HB1.out.size)
 replace HB1 := Aside0.mk (HB1.out.trans (HBa.out.mono HB1.out.size))
 clear HBa hB0 HT HRW
 generalize w1.alloc (.cells #[.int .i64 t.f0, .int .i64 t.f1, .slice V.a2 t.f2.length V.k2, .slice V.a3 t.f3.length V.k3, .slice V.a4 t.f4.length V.k4, .slice V.a5 t.f5.length V.k5, .slice V.a6 t.f6.length V.k6, .slice V.a7 t.f7.length V.k7, .slice V.a8 t.f8.length V.k8, .int .i64 t.f9, .int .i64 t.f10, .int .i64 t.f11, .int .i64 t.f12] 33) = w2 at *
 have HW1 := Aside0.mk (show WS (w2.alloc (.cells #[.slice none 0 0] 59)) w2.heap.size w2.heap.size (.slice none 0 0) [] from ⟨heap_alloc_new _ _, Nat.le_refl _, Kd.R_nil _ _ _ _ _⟩)
 have HBa := Aside0.mk (below_a w2 (.cells #[.slice none 0 0] 59))
 go_wp2_with ((with_reducible refine gate_dst (N := 21) rfl ?_); refine load33 (HS.out.below HBa.out) rfl (.tmp 4) rfl rfl ?_)
 have hx := body_calls V t w2.heap.size w2.heap.size (.slice none 0 0) [] _ HW1.out w2 HS.out.tb HBa.out (Nat.le_refl _) HSM.out.tab (by simp)
 unfold arr at hx
 refine hx.mono ?_
 clear hx
 rintro e w4 ⟨ua, v1, rfl, RU, W1, R1⟩
 have HLO := Aside0.mk (HBa.out.trans R1.kp.low)
 replace HS := Aside0.mk (show At w4 B0 V t from ⟨(HLO.out.block B0 HS.out.lt).trans HS.out.box, HS.out.tb.below HLO.out⟩)
 replace HB1 := Aside0.mk (HB1.out.trans (HLO.out.mono HB1.out.size))
 obtain ⟨Au, cu, hu, hcu, hCu⟩ := Kd.R_reads RU
 subst hu
 have HRU := Aside0.mk (Kd.R_lower RU (Nat.zero_le _))
 clear RU W1 R1 HLO HBa HW1 hCu hcu
 go_upto_region 5 with fail
 go_upto_region 6 with fail
 have HBb := Aside0.mk (below_a w4 (.cells #[.int .i64 2, .int .i64 3, .int .i64 4, .int .i64 5, .int .i64 6, .int .i64 7, .int .i64 8] 49))
 have hsz : (w4.alloc (.cells #[.int .i64 2, .int .i64 3, .int .i64 4, .int .i64 5, .int .i64 6, .int .i64 7, .int .i64 8] 49)).heap.size = w4.heap.size + 1 := by simp
 have HK := Aside0.mk (heap_alloc_new w4 (.cells #[.int .i64 2, .int .i64 3, .int .i64 4, .int .i64 5, .int .i64 6, .int .i64 7, .int .i64 8] 49))
 go_upto_region 7 with fail
 have HSZ := Aside0.mk hsz
 clear hsz
 replace HS := Aside0.mk (HS.out.below HBb.out)
 replace HB1 := Aside0.mk (HB1.out.trans (HBb.out.mono HB1.out.size))
 replace HRU := Aside0.mk (Kd.R_below HRU.out HBb.out)
 rw [← HSZ.out]
 obtain ⟨KB, hK⟩ : ∃ K, K = w4.heap.size := ⟨_, rfl⟩
 rw [← hK] at HK ⊢
 clear HBb HSZ hK
 generalize w4.alloc (.cells #[.int .i64 2, .int .i64 3, .int .i64 4, .int .i64 5, .int .i64 6, .int .i64 7, .int .i64 8] 49) = w5 at *
 have HBc := Aside0.mk (below_a w5 (.cells #[.int .i64 1, .int .i64 0, .int .i64 28, .int .i64 1] 51))
 have HR0 := Aside0.mk (show k51.R 51 (w5.alloc (.cells #[.int .i64 1, .int .i64 0, .int .i64 28, .int .i64 1] 51)) w.heap.size (fun _ => True) (.slice (some ⟨w5.heap.size, 0, none⟩) 1 1) (partsN t 0) from one_row ⟨1, 0, 28, 1⟩ HB1.out.size)
 replace HS := Aside0.mk (HS.out.below HBc.out)
 replace HB1 := Aside0.mk (HB1.out.trans (HBc.out.mono HB1.out.size))
 replace HRU := Aside0.mk (Kd.R_below HRU.out HBc.out)
 replace HK := Aside0.mk ((HBc.out.block KB (blk_lt HK.out)).trans HK.out)
 clear HBc
 generalize w5.heap.size = P5 at *
 generalize w5.alloc (.cells #[.int .i64 1, .int .i64 0, .int .i64 28, .int .i64 1] 51) = w6 at *
 go_wp2_with ((with_reducible refine gate_dst (N := 26) rfl ?_); refine load33 HS.out rfl (.tmp 4) rfl rfl ?_)
 have hx := image_counts.calls t.f0 t.f1 V.a2 V.k2 t.f2 V.a3 V.k3 t.f3 V.a4 V.k4 t.f4 V.a5 V.k5 t.f5 V.a6 V.k6 t.f6 V.a7 V.k7 t.f7 V.a8 V.k8 t.f8 t.f9 t.f10 t.f11 t.f12 (cntsL t) w6 HS.out.tb.tk HS.out.tb.tkl HS.out.tb.rg HS.out.tb.rgl HS.out.tb.rs HS.out.tb.rsl HS.out.tb.ct HS.out.tb.ctl HS.out.tb.al HS.out.tb.all HS.out.tb.ir HS.out.tb.irl HS.out.tb.mg HS.out.tb.mgl rfl
 refine hx.mono ?_
 clear hx
 rintro e w7 ⟨uc, rfl, RC, BC⟩
 obtain ⟨An, cn, hcn, hccn, hCn⟩ := Kd.R_reads RC
 subst hcn
 have HP0 := Aside0.mk (show PSt w w7 B0 V t (.slice (some ⟨P5, 0, none⟩) 1 1) 0 Au An cu cn KB from ⟨HB1.out.trans (BC.mono HB1.out.size), Kd.R_below HR0.out BC, Kd.R_below HRU.out BC, Kd.R_lower RC (Nat.zero_le _), (BC.block KB (blk_lt HK.out)).trans HK.out⟩)
 clear RC BC hccn hCn HB1 HRU HK HR0 HS HB0
 have hl7 : (cntsL t).length = 7 := rfl
 have hl8 := mk8 t
 rw [hl7, hl8]
 clear hl7 hl8
 go_wp2_with fail
 go_loopg [8, 29] 7 (fun g s8 i wr => ∃ (k : Nat) (A3 : Option Addr) (n3 c3 : Nat), k ≤ 7 ∧ g = 7 - k ∧ s8 = .slice A3 n3 c3 ∧ i = .int .i64 k ∧ Aside0 (PSt w wr B0 V t (.slice A3 n3 c3) k Au An cu cn KB))
 case atStart => exact ⟨0, _, 1, 1, by omega, rfl, rfl, rfl, HP0⟩
 case round =>
 clear HP0
 obtain ⟨k, A3, n3, c3, hk, rfl, rfl, rfl, HL⟩ := hrel
 by_cases hlt : k < 7
 case pos =>
  have hd : decide ((k : Int) < 7) = true := decide_eq_true (by omega)
  have HLT := Aside0.mk hlt
  obtain ⟨ad, had, _, hcn⟩ := row_cell HL.out.cn (k := 0) (by show 0 < 7; omega)
  subst had
  obtain ⟨au, hau, _, hcu⟩ := row_cell HL.out.at_ (k := 0) (by rw [mk8]; omega)
  subst hau
  have hx := hcn k hlt
  have HU := Aside0.mk (show wr.cell? (au.add k) = some (.int .i64 (mk t k)) from hcu k (by rw [mk8]; omega))
  have HU1 := Aside0.mk (show wr.cell? ⟨au.block, au.off + (k + 1), none⟩ = some (.int .i64 (mk t (k + 1))) from by have h := hcu (k + 1) (by rw [mk8]; omega); rw [show au.add (k + 1) = ⟨au.block, au.off + (k + 1), none⟩ by simp [Addr.add]] at h; exact h)
  have HKK := Aside0.mk (HL.out.kcell hlt)
  have HE := Aside0.mk (mk_step t k)
  have hb1 := mk_bd (imgL_len HSM.out).2 (show k < 8 by omega)
  have hb2 := mk_bd (imgL_len HSM.out).2 (show k + 1 < 8 by omega)
  clear hcn hcu
  generalize mk t k = a at *
  generalize mk t (k + 1) = b2 at *
  generalize (cntsL t).getD k 0 = nk at *
  have hw1 : wrap64 (28 + a) = 28 + a := by unfold wrap64; omega
  have hw2 : wrap64 (b2 - a) = b2 - a := by unfold wrap64; omega
  have hw3 : wrap64 ((k : Int) + 1) = ((k + 1 : Nat) : Int) := by unfold wrap64; omega
  have hw4 : IntKind.i64.wrap (28 + a) = 28 + a := by rw [IntKind.wrap_i64]; omega
  have hw5 : IntKind.i64.wrap (b2 - a) = b2 - a := by rw [IntKind.wrap_i64]; omega
  have hw6 : IntKind.i64.wrap ((k : Int) + 1) = ((k + 1 : Nat) : Int) := by rw [IntKind.wrap_i64]; omega
  clear hb1 hb2
  go_upto_region 10 with fail
  clear hx
  have i7 : (k : Int) < 7 := by omega
  have i8 : (k : Int) < 8 := by omega
  have i9 : (k : Int) + 1 < 8 := by omega
  have i10 : (0 : Int) ≤ (k : Int) + 1 := by omega
  have GU := Aside0.mk (fun (w_ : World) (s : Below wr.heap.size wr w_) => (s.cell (World.block_lt_of_cell? wr _ HU.out)).trans HU.out)
  have GU1 := Aside0.mk (fun (w_ : World) (s : Below wr.heap.size wr w_) => (s.cell (World.block_lt_of_cell? wr _ HU1.out)).trans HU1.out)
  have GK := Aside0.mk (fun (w_ : World) (s : Below wr.heap.size wr w_) => (s.cell (World.block_lt_of_cell? wr _ HKK.out)).trans HKK.out)
  clear HU HU1 HKK
  refine start_ (n := 25) (S := fun w_ => Below wr.heap.size wr w_) (ds := [23]) #[false, false, false, false, false, false, false, false, false, false, false, false, false, false, false, false, false, false, false, false, false, false, false, false, false] (by kernel_rfl) rfl rfl (drew_below wr) (fun hHeld => ?_)
  have HH := Aside0.mk hHeld
  clear hHeld
  generalize wr.drew = wv at HH ⊢
  refine pure_ (i := 0) (N := some 34) (v := ?_) (a' := ?_) #[true, false, false, false, false, false, false, false, false, false, false, false, false, false, false, false, false, false, false, false, false, false, false, false, false] rfl rfl (by kernel_rfl) (fun _ _ _ h => h) (Or.inl ⟨by rfl, ?_⟩) ?_ ?_
  rotate_left
  ·intro w_
   go_simp
   with_reducible rfl
  rotate_left
  ·simp only [Act.put, List.setIfInBounds_toArray, List.set_cons_zero, List.set_cons_succ, i64_w, i32_w]
   rfl
  refine pure_ (i := 1) (N := some 35) (v := ?_) (a' := ?_) #[true, true, false, false, false, false, false, false, false, false, false, false, false, false, false, false, false, false, false, false, false, false, false, false, false] rfl rfl (by kernel_rfl) (fun _ _ _ h => h) (Or.inl ⟨by rfl, ?_⟩) ?_ ?_
  rotate_left
  ·intro w_
   go_simp
   with_reducible rfl
  rotate_left
  ·simp only [Act.put, List.setIfInBounds_toArray, List.set_cons_zero, List.set_cons_succ, i64_w, i32_w]
   rfl
  refine pure_ (i := 2) (N := some 36) (v := ?_) (a' := ?_) #[true, true, true, false, false, false, false, false, false, false, false, false, false, false, false, false, false, false, false, false, false, false, false, false, false] rfl rfl (by kernel_rfl) (fun _ _ _ h => h) (Or.inl ⟨by rfl, ?_⟩) ?_ ?_
  rotate_left
  ·intro w_
   go_simp
   with_reducible rfl
  rotate_left
  ·simp only [Act.put, List.setIfInBounds_toArray, List.set_cons_zero, List.set_cons_succ, i64_w, i32_w]
   rfl
  refine pure_ (i := 3) (N := some 37) (v := ?_) (a' := ?_) #[true, true, true, true, false, false, false, false, false, false, false, false, false, false, false, false, false, false, false, false, false, false, false, false, false] rfl rfl (by kernel_rfl) (fun _ _ _ h => h) (Or.inl ⟨by rfl, ?_⟩) ?_ ?_
  rotate_left
  ·intro w_
   go_simp
   with_reducible rfl
  rotate_left
  ·simp only [Act.put, List.setIfInBounds_toArray, List.set_cons_zero, List.set_cons_succ, i64_w, i32_w]
   rfl
  refine take_ (i := 4) (N := some 38) (v := ?_) (a' := ?_) #[true, true, true, true, true, false, false, false, false, false, false, false, false, false, false, false, false, false, false, false, false, false, false, false, false] rfl rfl (by kernel_rfl) (fun _ _ _ h => h) (Or.inl ⟨by rfl, ?_⟩) HH.out ?_ ?_
  rotate_left
  ·rintro w_ s
   have u0 := GU.out w_ s; have u1 := GU1.out w_ s; have uk := GK.out w_ s
   go_simp
   with_reducible rfl
  rotate_left
  ·simp only [Act.put, List.setIfInBounds_toArray, List.set_cons_zero, List.set_cons_succ, i64_w, i32_w]
   rfl
  refine pure_ (i := 5) (N := some 39) (v := ?_) (a' := ?_) #[true, true, true, true, true, true, false, false, false, false, false, false, false, false, false, false, false, false, false, false, false, false, false, false, false] rfl rfl (by kernel_rfl) (fun _ _ _ h => h) (Or.inl ⟨by rfl, ?_⟩) ?_ ?_
  rotate_left
  ·intro w_
   go_simp
   with_reducible rfl
  rotate_left
  ·simp only [Act.put, List.setIfInBounds_toArray, List.set_cons_zero, List.set_cons_succ, i64_w, i32_w]
   rfl
  refine pure_ (i := 6) (N := some 40) (v := ?_) (a' := ?_) #[true, true, true, true, true, true, true, false, false, false, false, false, false, false, false, false, false, false, false, false, false, false, false, false, false] rfl rfl (by kernel_rfl) (fun _ _ _ h => h) (Or.inl ⟨by rfl, ?_⟩) ?_ ?_
  rotate_left
  ·intro w_
   go_simp
   with_reducible rfl
  rotate_left
  ·simp only [Act.put, List.setIfInBounds_toArray, List.set_cons_zero, List.set_cons_succ, i64_w, i32_w]
   rfl
  refine pure_ (i := 7) (N := some 41) (v := ?_) (a' := ?_) #[true, true, true, true, true, true, true, true, false, false, false, false, false, false, false, false, false, false, false, false, false, false, false, false, false] rfl rfl (by kernel_rfl) (fun _ _ _ h => h) (Or.inl ⟨by rfl, ?_⟩) ?_ ?_
  rotate_left
  ·intro w_
   go_simp
   with_reducible rfl
  rotate_left
  ·simp only [Act.put, List.setIfInBounds_toArray, List.set_cons_zero, List.set_cons_succ, i64_w, i32_w]
   rfl
  refine take_ (i := 8) (N := some 42) (v := ?_) (a' := ?_) #[true, true, true, true, true, true, true, true, true, false, false, false, false, false, false, false, false, false, false, false, false, false, false, false, false] rfl rfl (by kernel_rfl) (fun _ _ _ h => h) (Or.inl ⟨by rfl, ?_⟩) HH.out ?_ ?_
  rotate_left
  ·rintro w_ s
   have u0 := GU.out w_ s; have u1 := GU1.out w_ s; have uk := GK.out w_ s
   go_simp
   with_reducible rfl
  rotate_left
  ·simp only [Act.put, List.setIfInBounds_toArray, List.set_cons_zero, List.set_cons_succ, i64_w, i32_w]
   rfl
  refine pure_ (i := 9) (N := some 43) (v := ?_) (a' := ?_) #[true, true, true, true, true, true, true, true, true, true, false, false, false, false, false, false, false, false, false, false, false, false, false, false, false] rfl rfl (by kernel_rfl) (fun _ _ _ h => h) (Or.inl ⟨by rfl, ?_⟩) ?_ ?_
  rotate_left
  ·intro w_
   go_simp
   with_reducible rfl
  rotate_left
  ·simp only [Act.put, List.setIfInBounds_toArray, List.set_cons_zero, List.set_cons_succ, i64_w, i32_w]
   rfl
  refine pure_ (i := 10) (N := some 44) (v := ?_) (a' := ?_) #[true, true, true, true, true, true, true, true, true, true, true, false, false, false, false, false, false, false, false, false, false, false, false, false, false] rfl rfl (by kernel_rfl) (fun _ _ _ h => h) (Or.inl ⟨by rfl, ?_⟩) ?_ ?_
  rotate_left
  ·intro w_
   go_simp
   with_reducible rfl
  rotate_left
  ·simp only [Act.put, List.setIfInBounds_toArray, List.set_cons_zero, List.set_cons_succ, i64_w, i32_w]
   rfl
  refine pure_ (i := 11) (N := some 45) (v := ?_) (a' := ?_) #[true, true, true, true, true, true, true, true, true, true, true, true, false, false, false, false, false, false, false, false, false, false, false, false, false] rfl rfl (by kernel_rfl) (fun _ _ _ h => h) (Or.inl ⟨by rfl, ?_⟩) ?_ ?_
  rotate_left
  ·intro w_
   go_simp
   with_reducible rfl
  rotate_left
  ·simp only [Act.put, List.setIfInBounds_toArray, List.set_cons_zero, List.set_cons_succ, i64_w, i32_w]
   rfl
  refine pure_ (i := 12) (N := some 46) (v := ?_) (a' := ?_) #[true, true, true, true, true, true, true, true, true, true, true, true, true, false, false, false, false, false, false, false, false, false, false, false, false] rfl rfl (by kernel_rfl) (fun _ _ _ h => h) (Or.inl ⟨by rfl, ?_⟩) ?_ ?_
  rotate_left
  ·intro w_
   go_simp
   with_reducible rfl
  rotate_left
  ·simp only [Act.put, List.setIfInBounds_toArray, List.set_cons_zero, List.set_cons_succ, i64_w, i32_w]
   rfl
  refine pure_ (i := 13) (N := some 47) (v := ?_) (a' := ?_) #[true, true, true, true, true, true, true, true, true, true, true, true, true, true, false, false, false, false, false, false, false, false, false, false, false] rfl rfl (by kernel_rfl) (fun _ _ _ h => h) (Or.inl ⟨by rfl, ?_⟩) ?_ ?_
  rotate_left
  ·intro w_
   go_simp
   with_reducible rfl
  rotate_left
  ·simp only [Act.put, List.setIfInBounds_toArray, List.set_cons_zero, List.set_cons_succ, i64_w, i32_w]
   rfl
  refine take_ (i := 14) (N := some 48) (v := ?_) (a' := ?_) #[true, true, true, true, true, true, true, true, true, true, true, true, true, true, true, false, false, false, false, false, false, false, false, false, false] rfl rfl (by kernel_rfl) (fun _ _ _ h => h) (Or.inl ⟨by rfl, ?_⟩) HH.out ?_ ?_
  rotate_left
  ·rintro w_ s
   have u0 := GU.out w_ s; have u1 := GU1.out w_ s; have uk := GK.out w_ s
   go_simp
   with_reducible rfl
  rotate_left
  ·simp only [Act.put, List.setIfInBounds_toArray, List.set_cons_zero, List.set_cons_succ, i64_w, i32_w]
   rfl
  refine pure_ (i := 15) (N := some 49) (v := ?_) (a' := ?_) #[true, true, true, true, true, true, true, true, true, true, true, true, true, true, true, true, false, false, false, false, false, false, false, false, false] rfl rfl (by kernel_rfl) (fun _ _ _ h => h) (Or.inl ⟨by rfl, ?_⟩) ?_ ?_
  rotate_left
  ·intro w_
   go_simp
   with_reducible rfl
  rotate_left
  ·simp only [Act.put, List.setIfInBounds_toArray, List.set_cons_zero, List.set_cons_succ, i64_w, i32_w]
   rfl
  refine pure_ (i := 16) (N := some 50) (v := ?_) (a' := ?_) #[true, true, true, true, true, true, true, true, true, true, true, true, true, true, true, true, true, false, false, false, false, false, false, false, false] rfl rfl (by kernel_rfl) (fun _ _ _ h => h) (Or.inl ⟨by rfl, ?_⟩) ?_ ?_
  rotate_left
  ·intro w_
   go_simp
   with_reducible rfl
  rotate_left
  ·simp only [Act.put, List.setIfInBounds_toArray, List.set_cons_zero, List.set_cons_succ, i64_w, i32_w]
   rfl
  refine pure_ (i := 17) (N := some 51) (v := ?_) (a' := ?_) #[true, true, true, true, true, true, true, true, true, true, true, true, true, true, true, true, true, true, false, false, false, false, false, false, false] rfl rfl (by kernel_rfl) (fun _ _ _ h => h) (Or.inl ⟨by rfl, ?_⟩) ?_ ?_
  rotate_left
  ·intro w_
   go_simp
   with_reducible rfl
  rotate_left
  ·simp only [Act.put, List.setIfInBounds_toArray, List.set_cons_zero, List.set_cons_succ, i64_w, i32_w]
   rfl
  refine take_ (i := 18) (N := some 52) (v := ?_) (a' := ?_) #[true, true, true, true, true, true, true, true, true, true, true, true, true, true, true, true, true, true, true, false, false, false, false, false, false] rfl rfl (by kernel_rfl) (fun _ _ _ h => h) (Or.inl ⟨by rfl, ?_⟩) HH.out ?_ ?_
  rotate_left
  ·rintro w_ s
   have u0 := GU.out w_ s; have u1 := GU1.out w_ s; have uk := GK.out w_ s
   go_simp
   with_reducible rfl
  rotate_left
  ·simp only [Act.put, List.setIfInBounds_toArray, List.set_cons_zero, List.set_cons_succ, i64_w, i32_w]
   rfl
  refine pure_ (i := 19) (N := some 53) (v := ?_) (a' := ?_) #[true, true, true, true, true, true, true, true, true, true, true, true, true, true, true, true, true, true, true, true, false, false, false, false, false] rfl rfl (by kernel_rfl) (fun _ _ _ h => h) (Or.inl ⟨by rfl, ?_⟩) ?_ ?_
  rotate_left
  ·intro w_
   go_simp
   with_reducible rfl
  rotate_left
  ·simp only [Act.put, List.setIfInBounds_toArray, List.set_cons_zero, List.set_cons_succ, i64_w, i32_w]
   rfl
  refine pure_ (i := 20) (N := some 54) (v := ?_) (a' := ?_) #[true, true, true, true, true, true, true, true, true, true, true, true, true, true, true, true, true, true, true, true, true, false, false, false, false] rfl rfl (by kernel_rfl) (fun _ _ _ h => h) (Or.inl ⟨by rfl, ?_⟩) ?_ ?_
  rotate_left
  ·intro w_
   go_simp
   with_reducible rfl
  rotate_left
  ·simp only [Act.put, List.setIfInBounds_toArray, List.set_cons_zero, List.set_cons_succ, i64_w, i32_w]
   rfl
  refine pure_ (i := 21) (N := some 55) (v := ?_) (a' := ?_) #[true, true, true, true, true, true, true, true, true, true, true, true, true, true, true, true, true, true, true, true, true, true, false, false, false] rfl rfl (by kernel_rfl) (fun _ _ _ h => h) (Or.inl ⟨by rfl, ?_⟩) ?_ ?_
  rotate_left
  ·intro w_
   go_simp
   with_reducible rfl
  rotate_left
  ·simp only [Act.put, List.setIfInBounds_toArray, List.set_cons_zero, List.set_cons_succ, i64_w, i32_w]
   rfl
  have HPV := Aside0.mk (HL.out.below HH.out)
  refine one_ (i := 22) (N := some 56) #[true, true, true, true, true, true, true, true, true, true, true, true, true, true, true, true, true, true, true, true, true, true, true, false, false] rfl rfl (by kernel_rfl) (by decide) (fun K hK => ?_)
  go_simp
  refine hK.out _ _ (HH.out.alloc HH.out.size _) (fun _ => ?_)
  clear hK K
  refine last_ (i := 23) (N := some 57) #[true, true, true, true, true, true, true, true, true, true, true, true, true, true, true, true, true, true, true, true, true, true, true, true, false] rfl rfl (by kernel_rfl) (by decide) (fun K hK => ?_)
  refine Kd.R_append_step k51 (w0 := w) w.heap.size (by rfl) (.tmp 34) (.tmp 56) 45 51 (.agg #[.int .i64 0, .int .i64 0, .int .i64 0, .int .i64 0]) 32 rfl Try.underlying45 inf51 rfl (by decide) (by omega) _ (partsN t k) (partRow t k) [.int .i64 ((k : Int) + 2), .int .i64 (28 + a), .int .i64 (b2 - a), .int .i64 nk] (fun _ => True) (fun _ => False) rfl rfl (by rw [HE.out]; exact k51_mkM _ _ _ _) (fun _ hk => hk.elim) (fun _ _ => trivial) HPV.out.row HPV.out.low HPV.out.low.size (by rw [partsN_len]; have := HLT.out; omega) ?_
  intro v3 w3 HR3 HB3 HG3 HA3
  rw [← partsN_succ] at HR3
  obtain ⟨A4, c4, e3⟩ := Kd.R_slice HR3
  subst e3
  have HLn := Aside0.mk (HPV.out.next HB3 HG3 HR3)
  clear HR3 HB3 HG3 HA3
  refine hK.out _ _ ?_
  clear hK K
  refine norm_ (a' := ?_) ?_ ?_
  rotate_left
  ·show Act.put _ (some 57) _ = _
   simp only [Act.put, List.setIfInBounds_toArray, List.set_cons_zero, List.set_cons_succ, i64_w, i32_w]
   rfl
  refine pure_ (i := 24) (N := some 8) (v := ?_) (a' := ?_) #[true, true, true, true, true, true, true, true, true, true, true, true, true, true, true, true, true, true, true, true, true, true, true, true, true] rfl rfl (by kernel_rfl) (fun _ _ _ h => h) (Or.inl ⟨by rfl, ?_⟩) ?_ ?_
  rotate_left
  ·intro w_
   go_simp
   with_reducible rfl
  rotate_left
  ·simp only [Act.put, List.setIfInBounds_toArray, List.set_cons_zero, List.set_cons_succ, i64_w, i32_w]
   rfl
  refine done_ (by kernel_rfl) ?_
  clear HL HPV HH GU GU1 GK
  go_wp2_with fail
  go_roundg (7 - (k + 1))
  case measure => have := HLT.out; omega
  case rel => exact ⟨k + 1, _, _, _, HLT.out, rfl, rfl, by go_num, HLn⟩
 have hd : decide ((k : Int) < 7) = false := decide_eq_false (by omega)
 obtain rfl : k = 7 := by omega
 have hwb : wrap64 ((b.length : Int) - 2) = (b.length : Int) - 2 := by unfold wrap64; have := HLB.out; omega
 have hwc : IntKind.i64.wrap ((b.length : Int) - 2) = (b.length : Int) - 2 := by rw [IntKind.wrap_i64]; have := HLB.out; omega
 go_upto_region 12 with fail
 go_wp2_with ((with_reducible refine gate_builtin (b := .append) (xs := #[.tmp 59, .tmp 64]) rfl ?_); at_builtin; refine Kd.R_append k51 (w0 := w) w.heap.size rfl (.tmp 59) (.tmp 64) 45 51 (.agg #[.int .i64 0, .int .i64 0, .int .i64 0, .int .i64 0]) 32 rfl Try.underlying45 inf51 rfl (by decide) (by omega) _ (partsN t 7) (⟨9, (b.length : Int) - 2, 2, 1⟩ : S51) [.int .i64 9, .int .i64 ((b.length : Int) - 2), .int .i64 2, .int .i64 1] (fun _ => True) (fun _ => False) rfl rfl (k51_mkM _ _ _ _) (fun _ h => h.elim) (fun _ _ => trivial) HL.out.row HL.out.low HL.out.low.size ?aL ?_; (case aL => rw [partsN_len]; omega); intro v3 w3 HR3 HB3 HG3 HA3; have HRR := Aside0.mk HR3; have HBB := Aside0.mk HB3; clear HR3 HB3 HG3 HA3)
 go_ret2
 exact PartOut.yes HP.out HBB.out _ rfl HRR.out
end Go.Proofs.Ytbgcemijihpakaa.XA
