/- what must come, whatever else is so: the chapter's example through all faces. -/
import Derived.Test.YtbgcemijihpakaaG38
import Derived.Test.YtbgcemijihpakaaG39
import Derived.Test.YtbgcemijihpakaaG42
import Derived.Test.YtbgcemijihpakaaG43
namespace Go.Proofs.Ytbgcemijihpakaa.XA
set_option linter.unusedVariables false
set_option linter.unusedSimpArgs false
open Go.RowKit Go.WideMaps Go.Maps Go.Proofs.YtbgcemijihpakaaW.PrintWords Go.Proofs.YtbgcemijihpakaaW.PrintLast Go.Proofs.YtbgcemijihpakaaW.PrintMore
theorem num_calls (n : Int) (w : World) : Calls Try.prog 8 #[.int .i64 n] w fun e w' => e = .returned (.int .i64 n) ∧ w = w' := by
 go_enter Try.func8, Try.ntmps8
 go_wp2
 go_ret
 exact ⟨rfl, rfl⟩
theorem small_calls (w : World) : Calls Try.prog 66 #[] w fun e w' => ∃ V, e = .returned (.agg (arr V smallT)) ∧ DecRows w.heap.size w' V smallT ∧ Below w.heap.size w w' := by
 refine (tappetlaw10_small.calls _ _ _ _ _ _ _ _ _ _ _ _ _ w rfl).mono ?_
 rintro e w' ⟨v2, v3, v4, v5, v6, v7, v8, rfl, h2, h3, h4, h5, h6, h7, h8, hb⟩
 have h2 := Kd.S_R h2
 have h7 := Kd.S_R h7
 obtain ⟨A2, k2, rfl⟩ := Kd.R_slice h2
 obtain ⟨A3, k3, rfl⟩ := Kd.R_slice h3
 obtain ⟨A4, k4, rfl⟩ := Kd.R_slice h4
 obtain ⟨A5, k5, rfl⟩ := Kd.R_slice h5
 obtain ⟨A6, k6, rfl⟩ := Kd.R_slice h6
 obtain ⟨A7, k7, rfl⟩ := Kd.R_slice h7
 obtain ⟨A8, k8, rfl⟩ := Kd.R_slice h8
 exact ⟨⟨A2, A3, A4, A5, A6, A7, A8, k2, k3, k4, k5, k6, k7, k8⟩, rfl, ⟨h2, h3, h4, h5, h6, h7, h8⟩, hb⟩
theorem small_sm : Small smallT := small_of small_ok small_ty
theorem small_enc : encL smallT = smallI := by unfold encL; rw [small_ok, ← small_img]; rfl
theorem small_tabE : tabE smallT = 0 := by unfold tabE; rw [small_ok]; rfl
theorem smallI_bs : ∀ x ∈ smallI, 0 ≤ x ∧ x ≤ 255 := by decide
theorem small_parts : partsL smallT 44 = [⟨1, 0, 28, 1⟩, ⟨2, 28, 11, 1⟩, ⟨3, 39, 3, 1⟩, ⟨4, 42, 0, 0⟩, ⟨5, 42, 0, 0⟩, ⟨6, 42, 0, 0⟩, ⟨7, 42, 0, 0⟩, ⟨8, 42, 0, 0⟩, ⟨9, 42, 2, 1⟩] := by rfl
theorem part_yes {b : List Int} {w w' : World} {e : Ending} {t : S33} (h : imgP b = .ok t) (hd : PartOut b w e w') : Below w.heap.size w w' ∧ ∃ v, e = .returned (.tuple #[v, .int .i64 0]) ∧ k51.R 51 w' w.heap.size (fun _ => True) v (partsL t b.length) := by
 unfold PartOut at hd
 rw [h] at hd
 exact hd
theorem flip_bs : ∀ x ∈ smallI.set 30 0, 0 ≤ x ∧ x ≤ 255 := by decide
/-- a row of bytes of one's own, one of them set -/
theorem byte_set {w : World} {g : Nat} {cur : Array Value} {l : List Int} {i : Nat} {x : Int} (hg : w.heap[g]? = some (.cells cur 5 (0, 0))) (hC : (Kd.int .u8).C w (some ⟨g, 0, none⟩) l.length l) (hi : i < l.length) : (Kd.int .u8).C (w.setCell ⟨g, i, none⟩ (.int .u8 x)) (some ⟨g, 0, none⟩) (l.set i x).length (l.set i x) := by
 have hr := Kd.reads_of_C (d := (0 : Int)) hC
 obtain ⟨ad, e, hc⟩ := hr.2.2 (by omega)
 injection e with e
 subst e
 refine Kd.C_of_reads (d := (0 : Int)) ⟨rfl, by rw [List.length_set]; exact hr.2.1, fun _ => ⟨_, rfl, fun j hj => ?_⟩⟩
 rw [List.length_set] at hj
 have ha : (Addr.add ⟨g, 0, none⟩ j) = ⟨g, j, none⟩ := by unfold Addr.add; split <;> simp_all
 have h1 := hc j hj
 rw [ha] at h1 ⊢
 rw [setCell_eq_setRow w g i cur 5 (0, 0) _ hg]
 have hn := setRow_heap w g cur (cur.setIfInBounds i (.int .u8 x)) 5 (0, 0) hg
 simp only [World.cell?, hg] at h1
 simp only [World.cell?, hn]
 rw [List.getD_eq_getElem?_getD, List.getElem?_set]
 by_cases he : i = j
 ·subst he
  rw [if_pos rfl, if_pos hj]
  have hlt : i < cur.size := by
   rcases Nat.lt_or_ge i cur.size with h | h
   ·exact h
   ·exact absurd h1 (by simp [Array.getElem?_eq_none h])
  simp [Array.getElem?_setIfInBounds, hlt]
 ·rw [if_neg he, ← List.getD_eq_getElem?_getD]
  have : (cur.setIfInBounds i (.int .u8 x))[j]? = cur[j]? := Array.getElem?_setIfInBounds_ne he
  simpa [this] using h1
set_option maxRecDepth 1000000 in
set_option maxHeartbeats 4000000 in
theorem alive_calls (w : World) : Calls Try.prog 15 #[] w fun e w' => e = .returned (.bool true) ∧ Below w.heap.size w w' := by
 obtain ⟨t, ht⟩ : ∃ t, t = smallT := ⟨_, rfl⟩
 have HTT := Aside0.mk ht
 have HSC := Aside0.mk (show ∀ w, Calls Try.prog 66 #[] w fun e w' => ∃ V, e = .returned (.agg (arr V t)) ∧ DecRows w.heap.size w' V t ∧ Below w.heap.size w w' from fun w => by rw [ht]; exact small_calls w)
 have HSM := Aside0.mk (show Small t from by rw [ht]; exact small_sm)
 have HEN := Aside0.mk (show encL t = smallI ∧ tabE t = 0 from by rw [ht]; exact ⟨small_enc, small_tabE⟩)
 have HDC := Aside0.mk (show imgP smallI = .ok t from by rw [ht]; exact small_back)
 have HPA := Aside0.mk (show (partsL t 44).length = 9 ∧ (partsL t 44).getD 1 z51 = ⟨2, 28, 11, 1⟩ from by rw [ht, small_parts]; exact ⟨rfl, rfl⟩)
 clear ht
 go_enter Try.func15, Try.ntmps15
 go_wp2_with fail
 refine (HSC.out w).mono ?_
 rintro e w1 ⟨V, rfl, r1, b1⟩
 have HT1 := Aside0.mk (tb_of r1 (bd_of HSM.out))
 have HB1 := Aside0.mk b1
 clear r1 b1
 go_wp2_with fail
 refine (enc_calls V t w1 HT1.out (fun _ => HSM.out.tab)).mono ?_
 rintro e w2 ⟨v, rfl, r2, b2⟩
 rw [HEN.out.1] at r2
 rw [HEN.out.2]
 have HB2 := Aside0.mk (HB1.out.trans (b2.mono HB1.out.size))
 obtain ⟨g, c, hv, hgb, hgl, _⟩ := Kd.R_form r2 (by decide)
 obtain ⟨A', c', hv', hcc, hC⟩ := Kd.R_reads r2
 rw [hv] at hv'
 injection hv' with h1 h2 h3
 subst h1 h3 hv
 obtain ⟨cur, hcur⟩ := own_ty r2 (k := g) rfl
 have hl : smallI.length = 44 := rfl
 have HC2 := Aside0.mk hC
 have HCC := Aside0.mk hcc
 have HG := Aside0.mk (show w.heap.size ≤ g ∧ g < w2.heap.size from ⟨Nat.le_trans HB1.out.size hgb, hgl⟩)
 have HGC := Aside0.mk hcur
 obtain ⟨ad, hA, hcell⟩ := (Kd.reads_of_C (d := (0 : Int)) hC).2.2 (by decide)
 injection hA with hA
 subst hA
 have c0 : w2.cell? ⟨g, 0, none⟩ = some (.int .u8 84) := by have := hcell 0 (by decide); rwa [add0] at this
 have c4 : w2.cell? ⟨g, 4, none⟩ = some (.int .u8 44) := hcell 4 (by decide)
 have c28 : w2.cell? ⟨g, 28, none⟩ = some (.int .u8 1) := hcell 28 (by decide)
 have c30 : w2.cell? ⟨g, 30, none⟩ = some (.int .u8 1) := hcell 30 (by decide)
 have C30 := Aside0.mk c30
 clear r2 b2 hgb hgl hcc hC hcur hcell HT1 HB1
 rw [hl]
 go_upto_region 2 with fail
 go_wp2_with fail
 refine (num_calls 0 w2).mono ?_
 rintro e w2' ⟨rfl, rfl⟩
 go_upto_region 4 with fail
 clear c0 c4 c28 c30
 go_wp2_with fail
 have hd := dec_calls (some ⟨g, 0, none⟩) c smallI w2 HC2.out HCC.out smallI_bs
 rw [hl] at hd
 refine hd.mono ?_
 clear hd
 rintro e w3 hd
 obtain ⟨b3, V3, rfl, r3⟩ := dec_yes HDC.out hd
 have HS3 := Aside0.mk (At.made (tb_of r3 (bd_of HSM.out)))
 have HR3 := Aside0.mk r3
 have HZ3 := Aside0.mk b3
 have HBa := Aside0.mk (below_a w3 (.cells (arr V3 t) 33))
 clear hd b3 r3
 unfold arr at HS3 HBa ⊢
 go_upto_region 5 with fail
 obtain ⟨B3, hB3⟩ : ∃ Q, Q = w3.heap.size := ⟨_, rfl⟩
 rw [← hB3] at HS3 ⊢
 have HG3 := Aside0.mk (show g < w2.heap.size ∧ w2.heap.size ≤ B3 from ⟨HG.out.2, by rw [hB3]; exact HZ3.out.size⟩)
 have HW3 := Aside0.mk (HZ3.out.trans (HBa.out.mono HZ3.out.size))
 replace HR3 := Aside0.mk (HR3.out.below HBa.out)
 clear HBa HZ3 hB3
 generalize w3.alloc _ = w4 at *
 go_wp2_with fail
 have hd := parts_calls (some ⟨g, 0, none⟩) c smallI w4 (Kd.C_below HC2.out HW3.out) HCC.out smallI_bs
 rw [hl] at hd
 refine hd.mono ?_
 clear hd
 rintro e w5 hd
 obtain ⟨b5, vp, rfl, rp⟩ := part_yes HDC.out hd
 obtain ⟨Ap, cp, hvp, hcp, hCp⟩ := Kd.R_reads rp
 rw [show ((smallI.length : Nat) : Int) = 44 from rfl] at hvp rp hCp hcp
 rw [HPA.out.1] at hvp
 subst hvp
 have HRP := Aside0.mk rp
 replace HS3 := Aside0.mk (HS3.out.below b5)
 replace HR3 := Aside0.mk (HR3.out.below b5)
 have HG4 := Aside0.mk (show g < w4.heap.size from by have := HG3.out; have := HS3.out; have := HW3.out.size; omega)
 have HW5 := Aside0.mk (HW3.out.trans (b5.mono HW3.out.size))
 clear rp b5 hd hcp hCp
 have c30 : w5.cell? ⟨g, 30, none⟩ = some (.int .u8 1) := (HW5.out.cell HG.out.2).trans C30.out
 have hg5 : w5.heap[g]? = some (.cells cur 5 (0, 0)) := (HW5.out.block g HG.out.2).trans HGC.out
 have f30 : w5.frozen? ⟨g, 30, none⟩ = false := by simp [World.frozen?, hg5]
 have HG5 := Aside0.mk hg5
 have HO5 := Aside0.mk (grown_row w5 g (cur.setIfInBounds 30 (.int .u8 0)))
 clear hg5
 go_upto_region 7 with fail
 clear c30 f30
 have e6 := setCell_eq_setRow w5 g 30 cur 5 (0, 0) (.int .u8 0) HG5.out
 have HC6 := Aside0.mk (byte_set (x := 0) HG5.out (Kd.C_below HC2.out HW5.out) (show 30 < smallI.length by decide))
 have HB6 := Aside0.mk ((HB2.out.trans (HW5.out.mono HB2.out.size)).setCell (p := ⟨g, 30, none⟩) HG.out.1 (.int .u8 0))
 rw [← e6] at HO5
 have HR6 := Aside0.mk (HR3.out.only HO5.out HG.out.2)
 have HS6 := Aside0.mk (show At (w5.setCell ⟨g, 30, none⟩ (.int .u8 0)) B3 V3 t from ⟨(HO5.out.block B3 HS3.out.lt (by have := HG3.out; simp; omega)).trans HS3.out.box, tb_of HR6.out (bd_of HSM.out)⟩)
 have HP6 := Aside0.mk (R_only HRP.out HO5.out HG4.out)
 clear e6 HO5 HR3 HS3 HRP HR6 HG5
 generalize w5.setCell ⟨g, 30, none⟩ (.int .u8 0) = w6 at *
 go_wp2_with fail
 have hd := dec_calls (some ⟨g, 0, none⟩) c (smallI.set 30 0) w6 HC6.out (by rw [List.length_set]; exact HCC.out) flip_bs
 rw [show (smallI.set 30 0).length = 44 from rfl] at hd
 refine hd.mono ?_
 clear hd
 rintro e w7 hd
 obtain ⟨b7, rfl⟩ := dec_no small_flip hd
 have HBa := Aside0.mk (b7.trans ((below_a w7 (.cells z33A 33)).mono b7.size))
 clear b7 hd
 unfold z33A at HBa ⊢
 go_upto_region 8 with fail
 generalize w7.alloc _ = w8 at *
 have HS8 := Aside0.mk (HS6.out.below HBa.out)
 have HB8 := Aside0.mk (HB6.out.trans (HBa.out.mono HB6.out.size))
 have HP8 := Aside0.mk (Kd.R_below HP6.out HBa.out)
 clear HS6 HB6 HP6 HBa
 obtain ⟨px, ap, hpx, hap, hp51⟩ : ∃ px ap, (partsL t 44).getD 1 z51 = px ∧ Ap = some ap ∧ At51 w8 (ap.add (1 * 4)) px := by
  obtain ⟨A', c', hs, _, hC⟩ := Kd.R_reads HP8.out
  injection hs with hs _ _
  subst hs
  exact part_at hC 1 (by rw [HPA.out.1]; omega)
 subst hap
 rw [HPA.out.2] at hpx
 subst hpx
 have HPX := Aside0.mk hp51
 clear hp51
 refine start_ (n := 36) (S := fun w_ => Below w8.heap.size w8 w_) (ds := []) #[false, false, false, false, false, false, false, false, false, false, false, false, false, false, false, false, false, false, false, false, false, false, false, false, false, false, false, false, false, false, false, false, false, false, false, false] (by kernel_rfl) rfl rfl (drew_below w8) (fun hHeld => ?_)
 have HH := Aside0.mk hHeld
 clear hHeld
 generalize w8.drew = wv at HH ⊢
 refine pure_ (i := 0) (N := some 63) (v := ?_) (a' := ?_) #[true, false, false, false, false, false, false, false, false, false, false, false, false, false, false, false, false, false, false, false, false, false, false, false, false, false, false, false, false, false, false, false, false, false, false, false] rfl rfl (by kernel_rfl) (fun _ _ _ h => h) (Or.inl ⟨by rfl, ?_⟩) ?_ ?_
 rotate_left
 ·intro w_
  go_simp
  with_reducible rfl
 rotate_left
 ·simp only [Act.put, List.setIfInBounds_toArray, List.set_cons_zero, List.set_cons_succ, i64_w, i32_w]
  rfl
 refine one_ (i := 1) (N := some 64) #[true, true, false, false, false, false, false, false, false, false, false, false, false, false, false, false, false, false, false, false, false, false, false, false, false, false, false, false, false, false, false, false, false, false, false, false] rfl rfl (by kernel_rfl) (by decide) (fun K hK => ?_)
 refine goes_ Try.func8 (by kernel_rfl) rfl #[.int .i64 0] (by rfl) rfl rfl (by first | rfl | (simp only [List.map_toArray, List.map_cons, List.map_nil]; rfl) | simp) ?_
 refine (num_calls 0 wv).mono ?_
 rintro e wb ⟨rfl, rfl⟩
 have B2 := Below.refl wv.heap.size wv
 refine ⟨_, rfl, ?_⟩
 have HH2 := Aside0.mk (HH.out.trans (B2.mono HH.out.size))
 clear HH B2
 have HH := HH2
 clear HH2
 refine hK.out _ _ HH.out (fun _ => ?_)
 clear hK K
 refine norm_ (a' := ?_) ?_ ?_
 rotate_left
 ·show Act.put _ (some 64) _ = _
  simp only [Act.put, List.setIfInBounds_toArray, List.set_cons_zero, List.set_cons_succ, i64_w, i32_w]
  rfl
 refine pure_ (i := 2) (N := some 65) (v := ?_) (a' := ?_) #[true, true, true, false, false, false, false, false, false, false, false, false, false, false, false, false, false, false, false, false, false, false, false, false, false, false, false, false, false, false, false, false, false, false, false, false] rfl rfl (by kernel_rfl) (fun _ _ _ h => h) (Or.inl ⟨by rfl, ?_⟩) ?_ ?_
 rotate_left
 ·intro w_
  go_simp
  with_reducible rfl
 rotate_left
 ·simp only [Act.put, List.setIfInBounds_toArray, List.set_cons_zero, List.set_cons_succ, i64_w, i32_w]
  rfl
 refine pure_ (i := 3) (N := some 66) (v := ?_) (a' := ?_) #[true, true, true, true, false, false, false, false, false, false, false, false, false, false, false, false, false, false, false, false, false, false, false, false, false, false, false, false, false, false, false, false, false, false, false, false] rfl rfl (by kernel_rfl) (fun _ _ _ h => h) (Or.inl ⟨by rfl, ?_⟩) ?_ ?_
 rotate_left
 ·intro w_
  go_simp
  with_reducible rfl
 rotate_left
 ·simp only [Act.put, List.setIfInBounds_toArray, List.set_cons_zero, List.set_cons_succ, i64_w, i32_w]
  rfl
 refine take_ (i := 4) (N := some 67) (v := ?_) (a' := ?_) #[true, true, true, true, true, false, false, false, false, false, false, false, false, false, false, false, false, false, false, false, false, false, false, false, false, false, false, false, false, false, false, false, false, false, false, false] rfl rfl (by kernel_rfl) (fun _ _ _ h => h) (Or.inl ⟨by rfl, ?_⟩) HH.out ?_ ?_
 rotate_left
 ·rintro w_ s
  refine run33 (HS8.out.below s) (.tmp 3) ?_ ?_ <;> rfl
 rotate_left
 ·simp only [Act.put, List.setIfInBounds_toArray, List.set_cons_zero, List.set_cons_succ, i64_w, i32_w]
  rfl
 refine one_ (i := 5) (N := some 68) #[true, true, true, true, true, true, false, false, false, false, false, false, false, false, false, false, false, false, false, false, false, false, false, false, false, false, false, false, false, false, false, false, false, false, false, false] rfl rfl (by kernel_rfl) (by decide) (fun K hK => ?_)
 refine goes_ Try.func66 (by kernel_rfl) rfl #[] (by rfl) rfl rfl (by first | rfl | (simp only [List.map_toArray, List.map_cons, List.map_nil]; rfl) | simp) ?_
 refine (HSC.out wv).mono ?_
 rintro e wb ⟨V4, rfl, r4, B2⟩
 have HT4 := Aside0.mk (tb_of r4 (bd_of HSM.out))
 clear r4
 refine ⟨_, rfl, ?_⟩
 have HH2 := Aside0.mk (HH.out.trans (B2.mono HH.out.size))
 clear HH B2
 have HH := HH2
 clear HH2
 refine hK.out _ _ HH.out (fun _ => ?_)
 clear hK K
 refine norm_ (a' := ?_) ?_ ?_
 rotate_left
 ·show Act.put _ (some 68) _ = _
  simp only [Act.put, List.setIfInBounds_toArray, List.set_cons_zero, List.set_cons_succ, i64_w, i32_w]
  rfl
 refine one_ (i := 6) (N := some 69) #[true, true, true, true, true, true, true, false, false, false, false, false, false, false, false, false, false, false, false, false, false, false, false, false, false, false, false, false, false, false, false, false, false, false, false, false] rfl rfl (by kernel_rfl) (by decide) (fun K hK => ?_)
 refine goes_ Try.func12 (by kernel_rfl) rfl #[.agg (arr V3 t), .agg (arr V4 t)] (by rfl) rfl rfl (by first | rfl | (simp only [List.map_toArray, List.map_cons, List.map_nil]; rfl) | simp) ?_
 refine (same12_calls V3 V4 t t wb (HS8.out.below HH.out).tb HT4.out).mono ?_
 rintro e wc ⟨rfl, B2⟩
 rw [sameB_self]
 refine ⟨_, rfl, ?_⟩
 have HH2 := Aside0.mk (HH.out.trans (B2.mono HH.out.size))
 clear HH B2
 have HH := HH2
 clear HH2
 refine hK.out _ _ HH.out (fun _ => ?_)
 clear hK K
 refine norm_ (a' := ?_) ?_ ?_
 rotate_left
 ·show Act.put _ (some 69) _ = _
  simp only [Act.put, List.setIfInBounds_toArray, List.set_cons_zero, List.set_cons_succ, i64_w, i32_w]
  rfl
 refine pure_ (i := 7) (N := some 70) (v := ?_) (a' := ?_) #[true, true, true, true, true, true, true, true, false, false, false, false, false, false, false, false, false, false, false, false, false, false, false, false, false, false, false, false, false, false, false, false, false, false, false, false] rfl rfl (by kernel_rfl) (fun _ _ _ h => h) (Or.inl ⟨by rfl, ?_⟩) ?_ ?_
 rotate_left
 ·intro w_
  go_simp
  with_reducible rfl
 rotate_left
 ·simp only [Act.put, List.setIfInBounds_toArray, List.set_cons_zero, List.set_cons_succ, i64_w, i32_w]
  rfl
 refine pure_ (i := 8) (N := some 71) (v := ?_) (a' := ?_) #[true, true, true, true, true, true, true, true, true, false, false, false, false, false, false, false, false, false, false, false, false, false, false, false, false, false, false, false, false, false, false, false, false, false, false, false] rfl rfl (by kernel_rfl) (fun _ _ _ h => h) (Or.inl ⟨by rfl, ?_⟩) ?_ ?_
 rotate_left
 ·intro w_
  go_simp
  with_reducible rfl
 rotate_left
 ·simp only [Act.put, List.setIfInBounds_toArray, List.set_cons_zero, List.set_cons_succ, i64_w, i32_w]
  rfl
 refine take_ (i := 9) (N := some 72) (v := ?_) (a' := ?_) #[true, true, true, true, true, true, true, true, true, true, false, false, false, false, false, false, false, false, false, false, false, false, false, false, false, false, false, false, false, false, false, false, false, false, false, false] rfl rfl (by kernel_rfl) (fun _ _ _ h => h) (Or.inl ⟨by rfl, ?_⟩) HH.out ?_ ?_
 rotate_left
 ·rintro w_ s
  refine run33 (HS8.out.below s) (.tmp 3) ?_ ?_ <;> rfl
 rotate_left
 ·simp only [Act.put, List.setIfInBounds_toArray, List.set_cons_zero, List.set_cons_succ, i64_w, i32_w]
  rfl
 refine one_ (i := 10) (N := some 73) #[true, true, true, true, true, true, true, true, true, true, true, false, false, false, false, false, false, false, false, false, false, false, false, false, false, false, false, false, false, false, false, false, false, false, false, false] rfl rfl (by kernel_rfl) (by decide) (fun K hK => ?_)
 refine goes_ Try.func66 (by kernel_rfl) rfl #[] (by rfl) rfl rfl (by first | rfl | (simp only [List.map_toArray, List.map_cons, List.map_nil]; rfl) | simp) ?_
 refine (HSC.out wc).mono ?_
 rintro e wd ⟨V5, rfl, r4, B2⟩
 have HT5 := Aside0.mk (tb_of r4 (bd_of HSM.out))
 clear r4
 refine ⟨_, rfl, ?_⟩
 have HH2 := Aside0.mk (HH.out.trans (B2.mono HH.out.size))
 clear HH B2
 have HH := HH2
 clear HH2
 refine hK.out _ _ HH.out (fun _ => ?_)
 clear hK K
 refine norm_ (a' := ?_) ?_ ?_
 rotate_left
 ·show Act.put _ (some 73) _ = _
  simp only [Act.put, List.setIfInBounds_toArray, List.set_cons_zero, List.set_cons_succ, i64_w, i32_w]
  rfl
 refine one_ (i := 11) (N := some 74) #[true, true, true, true, true, true, true, true, true, true, true, true, false, false, false, false, false, false, false, false, false, false, false, false, false, false, false, false, false, false, false, false, false, false, false, false] rfl rfl (by kernel_rfl) (by decide) (fun K hK => ?_)
 refine goes_ Try.func13 (by kernel_rfl) rfl #[.agg (arr V3 t), .agg (arr V5 t)] (by rfl) rfl rfl (by first | rfl | (simp only [List.map_toArray, List.map_cons, List.map_nil]; rfl) | simp) ?_
 refine (same13_calls V3 V5 t t wd (HS8.out.below HH.out).tb HT5.out).mono ?_
 rintro e we ⟨rfl, B2⟩
 rw [sameB_self]
 refine ⟨_, rfl, ?_⟩
 have HH2 := Aside0.mk (HH.out.trans (B2.mono HH.out.size))
 clear HH B2
 have HH := HH2
 clear HH2
 refine hK.out _ _ HH.out (fun _ => ?_)
 clear hK K
 refine norm_ (a' := ?_) ?_ ?_
 rotate_left
 ·show Act.put _ (some 74) _ = _
  simp only [Act.put, List.setIfInBounds_toArray, List.set_cons_zero, List.set_cons_succ, i64_w, i32_w]
  rfl
 refine pure_ (i := 12) (N := some 75) (v := ?_) (a' := ?_) #[true, true, true, true, true, true, true, true, true, true, true, true, true, false, false, false, false, false, false, false, false, false, false, false, false, false, false, false, false, false, false, false, false, false, false, false] rfl rfl (by kernel_rfl) (fun _ _ _ h => h) (Or.inl ⟨by rfl, ?_⟩) ?_ ?_
 rotate_left
 ·intro w_
  go_simp
  with_reducible rfl
 rotate_left
 ·simp only [Act.put, List.setIfInBounds_toArray, List.set_cons_zero, List.set_cons_succ, i64_w, i32_w]
  rfl
 refine pure_ (i := 13) (N := some 76) (v := ?_) (a' := ?_) #[true, true, true, true, true, true, true, true, true, true, true, true, true, true, false, false, false, false, false, false, false, false, false, false, false, false, false, false, false, false, false, false, false, false, false, false] rfl rfl (by kernel_rfl) (fun _ _ _ h => h) (Or.inl ⟨by rfl, ?_⟩) ?_ ?_
 rotate_left
 ·intro w_
  go_simp
  with_reducible rfl
 rotate_left
 ·simp only [Act.put, List.setIfInBounds_toArray, List.set_cons_zero, List.set_cons_succ, i64_w, i32_w]
  rfl
 refine pure_ (i := 14) (N := some 77) (v := ?_) (a' := ?_) #[true, true, true, true, true, true, true, true, true, true, true, true, true, true, true, false, false, false, false, false, false, false, false, false, false, false, false, false, false, false, false, false, false, false, false, false] rfl rfl (by kernel_rfl) (fun _ _ _ h => h) (Or.inl ⟨by rfl, ?_⟩) ?_ ?_
 rotate_left
 ·intro w_
  go_simp
  with_reducible rfl
 rotate_left
 ·simp only [Act.put, List.setIfInBounds_toArray, List.set_cons_zero, List.set_cons_succ, i64_w, i32_w]
  rfl
 refine one_ (i := 15) (N := some 78) #[true, true, true, true, true, true, true, true, true, true, true, true, true, true, true, true, false, false, false, false, false, false, false, false, false, false, false, false, false, false, false, false, false, false, false, false] rfl rfl (by kernel_rfl) (by decide) (fun K hK => ?_)
 refine goes_ Try.func8 (by kernel_rfl) rfl #[.int .i64 0] (by rfl) rfl rfl (by first | rfl | (simp only [List.map_toArray, List.map_cons, List.map_nil]; rfl) | simp) ?_
 refine (num_calls 0 we).mono ?_
 rintro e wf ⟨rfl, rfl⟩
 have B2 := Below.refl we.heap.size we
 refine ⟨_, rfl, ?_⟩
 have HH2 := Aside0.mk (HH.out.trans (B2.mono HH.out.size))
 clear HH B2
 have HH := HH2
 clear HH2
 refine hK.out _ _ HH.out (fun _ => ?_)
 clear hK K
 refine norm_ (a' := ?_) ?_ ?_
 rotate_left
 ·show Act.put _ (some 78) _ = _
  simp only [Act.put, List.setIfInBounds_toArray, List.set_cons_zero, List.set_cons_succ, i64_w, i32_w]
  rfl
 refine pure_ (i := 16) (N := some 79) (v := ?_) (a' := ?_) #[true, true, true, true, true, true, true, true, true, true, true, true, true, true, true, true, true, false, false, false, false, false, false, false, false, false, false, false, false, false, false, false, false, false, false, false] rfl rfl (by kernel_rfl) (fun _ _ _ h => h) (Or.inl ⟨by rfl, ?_⟩) ?_ ?_
 rotate_left
 ·intro w_
  go_simp
  with_reducible rfl
 rotate_left
 ·simp only [Act.put, List.setIfInBounds_toArray, List.set_cons_zero, List.set_cons_succ, i64_w, i32_w]
  rfl
 refine pure_ (i := 17) (N := some 80) (v := ?_) (a' := ?_) #[true, true, true, true, true, true, true, true, true, true, true, true, true, true, true, true, true, true, false, false, false, false, false, false, false, false, false, false, false, false, false, false, false, false, false, false] rfl rfl (by kernel_rfl) (fun _ _ _ h => h) (Or.inl ⟨by rfl, ?_⟩) ?_ ?_
 rotate_left
 ·intro w_
  go_simp
  with_reducible rfl
 rotate_left
 ·simp only [Act.put, List.setIfInBounds_toArray, List.set_cons_zero, List.set_cons_succ, i64_w, i32_w]
  rfl
 refine pure_ (i := 18) (N := some 81) (v := ?_) (a' := ?_) #[true, true, true, true, true, true, true, true, true, true, true, true, true, true, true, true, true, true, true, false, false, false, false, false, false, false, false, false, false, false, false, false, false, false, false, false] rfl rfl (by kernel_rfl) (fun _ _ _ h => h) (Or.inl ⟨by rfl, ?_⟩) ?_ ?_
 rotate_left
 ·intro w_
  go_simp
  with_reducible rfl
 rotate_left
 ·simp only [Act.put, List.setIfInBounds_toArray, List.set_cons_zero, List.set_cons_succ, i64_w, i32_w]
  rfl
 refine pure_ (i := 19) (N := some 82) (v := ?_) (a' := ?_) #[true, true, true, true, true, true, true, true, true, true, true, true, true, true, true, true, true, true, true, true, false, false, false, false, false, false, false, false, false, false, false, false, false, false, false, false] rfl rfl (by kernel_rfl) (fun _ _ _ h => h) (Or.inl ⟨by rfl, ?_⟩) ?_ ?_
 rotate_left
 ·intro w_
  go_simp
  with_reducible rfl
 rotate_left
 ·simp only [Act.put, List.setIfInBounds_toArray, List.set_cons_zero, List.set_cons_succ, i64_w, i32_w]
  rfl
 refine pure_ (i := 20) (N := some 83) (v := ?_) (a' := ?_) #[true, true, true, true, true, true, true, true, true, true, true, true, true, true, true, true, true, true, true, true, true, false, false, false, false, false, false, false, false, false, false, false, false, false, false, false] rfl rfl (by kernel_rfl) (fun _ _ _ h => h) (Or.inl ⟨by rfl, ?_⟩) ?_ ?_
 rotate_left
 ·intro w_
  go_simp
  with_reducible rfl
 rotate_left
 ·simp only [Act.put, List.setIfInBounds_toArray, List.set_cons_zero, List.set_cons_succ, i64_w, i32_w]
  rfl
 refine pure_ (i := 21) (N := some 84) (v := ?_) (a' := ?_) #[true, true, true, true, true, true, true, true, true, true, true, true, true, true, true, true, true, true, true, true, true, true, false, false, false, false, false, false, false, false, false, false, false, false, false, false] rfl rfl (by kernel_rfl) (fun _ _ _ h => h) (Or.inl ⟨by rfl, ?_⟩) ?_ ?_
 rotate_left
 ·intro w_
  go_simp
  with_reducible rfl
 rotate_left
 ·simp only [Act.put, List.setIfInBounds_toArray, List.set_cons_zero, List.set_cons_succ, i64_w, i32_w]
  rfl
 refine pure_ (i := 22) (N := some 85) (v := ?_) (a' := ?_) #[true, true, true, true, true, true, true, true, true, true, true, true, true, true, true, true, true, true, true, true, true, true, true, false, false, false, false, false, false, false, false, false, false, false, false, false] rfl rfl (by kernel_rfl) (fun _ _ _ h => h) (Or.inl ⟨by rfl, ?_⟩) ?_ ?_
 rotate_left
 ·intro w_
  go_simp
  with_reducible rfl
 rotate_left
 ·simp only [Act.put, List.setIfInBounds_toArray, List.set_cons_zero, List.set_cons_succ, i64_w, i32_w]
  rfl
 refine pure_ (i := 23) (N := some 86) (v := ?_) (a' := ?_) #[true, true, true, true, true, true, true, true, true, true, true, true, true, true, true, true, true, true, true, true, true, true, true, true, false, false, false, false, false, false, false, false, false, false, false, false] rfl rfl (by kernel_rfl) (fun _ _ _ h => h) (Or.inl ⟨by rfl, ?_⟩) ?_ ?_
 rotate_left
 ·intro w_
  go_simp
  with_reducible rfl
 rotate_left
 ·simp only [Act.put, List.setIfInBounds_toArray, List.set_cons_zero, List.set_cons_succ, i64_w, i32_w]
  rfl
 refine pure_ (i := 24) (N := some 87) (v := ?_) (a' := ?_) #[true, true, true, true, true, true, true, true, true, true, true, true, true, true, true, true, true, true, true, true, true, true, true, true, true, false, false, false, false, false, false, false, false, false, false, false] rfl rfl (by kernel_rfl) (fun _ _ _ h => h) (Or.inl ⟨by rfl, ?_⟩) ?_ ?_
 rotate_left
 ·intro w_
  go_simp
  with_reducible rfl
 rotate_left
 ·simp only [Act.put, List.setIfInBounds_toArray, List.set_cons_zero, List.set_cons_succ, i64_w, i32_w]
  rfl
 refine pure_ (i := 25) (N := some 88) (v := ?_) (a' := ?_) #[true, true, true, true, true, true, true, true, true, true, true, true, true, true, true, true, true, true, true, true, true, true, true, true, true, true, false, false, false, false, false, false, false, false, false, false] rfl rfl (by kernel_rfl) (fun _ _ _ h => h) (Or.inl ⟨by rfl, ?_⟩) ?_ ?_
 rotate_left
 ·intro w_
  go_simp
  with_reducible rfl
 rotate_left
 ·simp only [Act.put, List.setIfInBounds_toArray, List.set_cons_zero, List.set_cons_succ, i64_w, i32_w]
  rfl
 refine take_ (i := 26) (N := some 89) (v := ?_) (a' := ?_) #[true, true, true, true, true, true, true, true, true, true, true, true, true, true, true, true, true, true, true, true, true, true, true, true, true, true, true, false, false, false, false, false, false, false, false, false] rfl rfl (by kernel_rfl) (fun _ _ _ h => h) (Or.inl ⟨by rfl, ?_⟩) HH.out ?_ ?_
 rotate_left
 ·rintro w_ s
  refine run51 (HPX.out.below s) (.tmp 88) ?_ ?_ <;> rfl
 rotate_left
 ·simp only [Act.put, List.setIfInBounds_toArray, List.set_cons_zero, List.set_cons_succ, i64_w, i32_w]
  rfl
 refine pure_ (i := 27) (N := some 90) (v := ?_) (a' := ?_) #[true, true, true, true, true, true, true, true, true, true, true, true, true, true, true, true, true, true, true, true, true, true, true, true, true, true, true, true, false, false, false, false, false, false, false, false] rfl rfl (by kernel_rfl) (fun _ _ _ h => h) (Or.inl ⟨by rfl, ?_⟩) ?_ ?_
 rotate_left
 ·intro w_
  go_simp
  with_reducible rfl
 rotate_left
 ·simp only [Act.put, List.setIfInBounds_toArray, List.set_cons_zero, List.set_cons_succ, i64_w, i32_w]
  rfl
 refine pure_ (i := 28) (N := some 91) (v := .bool true) (a' := ?_) #[true, true, true, true, true, true, true, true, true, true, true, true, true, true, true, true, true, true, true, true, true, true, true, true, true, true, true, true, true, false, false, false, false, false, false, false] rfl rfl (by kernel_rfl) (fun _ _ _ h => h) (Or.inl ⟨by rfl, fun w_ => by kernel_rfl⟩) ?_ ?_
 rotate_left
 ·simp only [Act.put, List.setIfInBounds_toArray, List.set_cons_zero, List.set_cons_succ, i64_w, i32_w]
  rfl
 refine pure_ (i := 29) (N := some 92) (v := ?_) (a' := ?_) #[true, true, true, true, true, true, true, true, true, true, true, true, true, true, true, true, true, true, true, true, true, true, true, true, true, true, true, true, true, true, false, false, false, false, false, false] rfl rfl (by kernel_rfl) (fun _ _ _ h => h) (Or.inl ⟨by rfl, ?_⟩) ?_ ?_
 rotate_left
 ·intro w_
  go_simp
  with_reducible rfl
 rotate_left
 ·simp only [Act.put, List.setIfInBounds_toArray, List.set_cons_zero, List.set_cons_succ, i64_w, i32_w]
  rfl
 refine pure_ (i := 30) (N := some 93) (v := ?_) (a' := ?_) #[true, true, true, true, true, true, true, true, true, true, true, true, true, true, true, true, true, true, true, true, true, true, true, true, true, true, true, true, true, true, true, false, false, false, false, false] rfl rfl (by kernel_rfl) (fun _ _ _ h => h) (Or.inl ⟨by rfl, ?_⟩) ?_ ?_
 rotate_left
 ·intro w_
  go_simp
  with_reducible rfl
 rotate_left
 ·simp only [Act.put, List.setIfInBounds_toArray, List.set_cons_zero, List.set_cons_succ, i64_w, i32_w]
  rfl
 refine pure_ (i := 31) (N := some 94) (v := ?_) (a' := ?_) #[true, true, true, true, true, true, true, true, true, true, true, true, true, true, true, true, true, true, true, true, true, true, true, true, true, true, true, true, true, true, true, true, false, false, false, false] rfl rfl (by kernel_rfl) (fun _ _ _ h => h) (Or.inl ⟨by rfl, ?_⟩) ?_ ?_
 rotate_left
 ·intro w_
  go_simp
  with_reducible rfl
 rotate_left
 ·simp only [Act.put, List.setIfInBounds_toArray, List.set_cons_zero, List.set_cons_succ, i64_w, i32_w]
  rfl
 refine one_ (i := 32) (N := some 95) #[true, true, true, true, true, true, true, true, true, true, true, true, true, true, true, true, true, true, true, true, true, true, true, true, true, true, true, true, true, true, true, true, true, false, false, false] rfl rfl (by kernel_rfl) (by decide) (fun K hK => ?_)
 refine goes_ Try.func8 (by kernel_rfl) rfl #[.int .i64 102] (by rfl) rfl rfl (by first | rfl | (simp only [List.map_toArray, List.map_cons, List.map_nil]; rfl) | simp) ?_
 refine (num_calls 102 we).mono ?_
 rintro e wf ⟨rfl, rfl⟩
 have B2 := Below.refl we.heap.size we
 refine ⟨_, rfl, ?_⟩
 have HH2 := Aside0.mk (HH.out.trans (B2.mono HH.out.size))
 clear HH B2
 have HH := HH2
 clear HH2
 refine hK.out _ _ HH.out (fun _ => ?_)
 clear hK K
 refine norm_ (a' := ?_) ?_ ?_
 rotate_left
 ·show Act.put _ (some 95) _ = _
  simp only [Act.put, List.setIfInBounds_toArray, List.set_cons_zero, List.set_cons_succ, i64_w, i32_w]
  rfl
 refine pure_ (i := 33) (N := some 96) (v := ?_) (a' := ?_) #[true, true, true, true, true, true, true, true, true, true, true, true, true, true, true, true, true, true, true, true, true, true, true, true, true, true, true, true, true, true, true, true, true, true, false, false] rfl rfl (by kernel_rfl) (fun _ _ _ h => h) (Or.inl ⟨by rfl, ?_⟩) ?_ ?_
 rotate_left
 ·intro w_
  go_simp
  with_reducible rfl
 rotate_left
 ·simp only [Act.put, List.setIfInBounds_toArray, List.set_cons_zero, List.set_cons_succ, i64_w, i32_w]
  rfl
 refine pure_ (i := 34) (N := some 97) (v := ?_) (a' := ?_) #[true, true, true, true, true, true, true, true, true, true, true, true, true, true, true, true, true, true, true, true, true, true, true, true, true, true, true, true, true, true, true, true, true, true, true, false] rfl rfl (by kernel_rfl) (fun _ _ _ h => h) (Or.inl ⟨by rfl, ?_⟩) ?_ ?_
 rotate_left
 ·intro w_
  go_simp
  with_reducible rfl
 rotate_left
 ·simp only [Act.put, List.setIfInBounds_toArray, List.set_cons_zero, List.set_cons_succ, i64_w, i32_w]
  rfl
 refine pure_ (i := 35) (N := some 0) (v := ?_) (a' := ?_) #[true, true, true, true, true, true, true, true, true, true, true, true, true, true, true, true, true, true, true, true, true, true, true, true, true, true, true, true, true, true, true, true, true, true, true, true] rfl rfl (by kernel_rfl) (fun _ _ _ h => h) (Or.inl ⟨by rfl, ?_⟩) ?_ ?_
 rotate_left
 ·intro w_
  go_simp
  with_reducible rfl
 rotate_left
 ·simp only [Act.put, List.setIfInBounds_toArray, List.set_cons_zero, List.set_cons_succ, i64_w, i32_w]
  rfl
 refine done_ (by kernel_rfl) ?_
 go_wp2_with fail
 go_ret
 exact ⟨rfl, HB8.out.trans (HH.out.mono HB8.out.size)⟩
end Go.Proofs.Ytbgcemijihpakaa.XA
