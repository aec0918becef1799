/- image's reader: a counter's row, an interrupt's. -/
import Derived.Test.YtbgcemijihpakaaG25
section
namespace Go.Proofs.Ytbgcemijihpakaa.XA
set_option linter.unusedVariables false
set_option linter.unusedSimpArgs false
open Go.RowKit Go.WideMaps Go.Maps Go.Proofs.YtbgcemijihpakaaW.PrintWords Go.Proofs.YtbgcemijihpakaaW.PrintLast Go.Proofs.YtbgcemijihpakaaW.PrintMore
theorem u32_in {x : Int} (h : 0 ≤ x) (h1 : x < 4294967296) : IntKind.u32.wrap x = x := by simp [IntKind.wrap, IntKind.signed, IntKind.bits]; omega
def is95 : World → S95 → Value → Prop := fun _ x v => v = .agg #[.int .u32 x.f0, .int .u32 x.f1, .int .u32 x.f2]
def pCtr : Rd S95 := pBind (pGet 4) fun a => pBind (pGet 4) fun b => pBind (pGet 4) fun c => pRet ⟨a, b, c⟩
def is107 (q : Nat) : World → S107 → Value → Prop := fun w x v => ∃ A c, v = .agg #[.int .i64 x.f0, .int .i64 x.f1, .slice A x.f2.length c] ∧ (Kd.int .i64).R 3 w q (fun _ => True) (.slice A x.f2.length c) x.f2
def pIsr : Rd S107 := pBind (pGet 1) fun a => pBind (pGet 1) fun b => pBind pList fun c => pRet ⟨a, b, c⟩
set_option maxRecDepth 1000000 in
set_option maxHeartbeats 4000000 in
theorem ctr_calls (B base g : Nat) (bs : List Int) (w : World) (h : RdSt w base B bs) (hb : ∀ x ∈ bs, 0 ≤ x ∧ x ≤ 255) (hx : RBox w g B) :
  Calls Try.prog 44 #[.pointer (some ⟨g, 0, none⟩)] w fun e w' => Got (pCtr bs) is95 base B w e w' := by
 have HNE := Aside0.mk (rbox_ne hx h)
 have HLT := Aside0.mk (rd_lt h)
 have HBY := Aside0.mk hb
 have HB := Aside0.mk (below_a w (.cells #[.int .u32 0, .int .u32 0, .int .u32 0] 95))
 have HS := Aside0.mk (h.below HB.out)
 have HX := Aside0.mk (hx.below HB.out)
 have HZ := Aside0.mk (show ZBox (w.alloc (.cells #[.int .u32 0, .int .u32 0, .int .u32 0] 95)) w.heap.size #[.int .u32 0, .int .u32 0, .int .u32 0] 95 from heap_alloc_new w _)
 clear h hb hx
 go_enter Try.func44, Try.ntmps44
 go_upto_region 1 with fail
 have HW := Aside0.mk (of_below B HB.out)
 generalize w.alloc (.cells #[.int .u32 0, .int .u32 0, .int .u32 0] 95) = wa at *
 refine start_ (n := 11) (S := fun w_ => RBox w_ g B) (ds := [10]) #[false, false, false, false, false, false, false, false, false, false, false] (by kernel_rfl) rfl rfl (HX.out.below (drew_below wa)) (fun hHeld => ?_)
 have HHX := Aside0.mk hHeld
 clear hHeld
 have HDB := Aside0.mk (drew_below wa)
 generalize wa.drew = wv at *
 refine take_ (i := 0) (N := some 2) (v := ?_) (a' := ?_) #[true, false, false, false, false, false, false, false, false, false, false] rfl rfl (by kernel_rfl) (fun _ _ _ h => h) (Or.inl ⟨by rfl, ?_⟩) HHX.out ?_ ?_
 rotate_left
 ·rintro w_ s
  refine run78 s (.tmp 0) ?_ ?_ <;> rfl
 rotate_left
 ·simp only [Act.put, List.setIfInBounds_toArray, List.set_cons_zero, List.set_cons_succ, i64_w, i32_w]
  rfl
 refine take_ (i := 3) (N := some 5) (v := ?_) (a' := ?_) #[true, false, false, true, false, false, false, false, false, false, false] rfl rfl (by kernel_rfl) (fun _ _ _ h => h) (Or.inl ⟨by rfl, ?_⟩) HHX.out ?_ ?_
 rotate_left
 ·rintro w_ s
  refine run78 s (.tmp 0) ?_ ?_ <;> rfl
 rotate_left
 ·simp only [Act.put, List.setIfInBounds_toArray, List.set_cons_zero, List.set_cons_succ, i64_w, i32_w]
  rfl
 refine take_ (i := 6) (N := some 8) (v := ?_) (a' := ?_) #[true, false, false, true, false, false, true, false, false, false, false] rfl rfl (by kernel_rfl) (fun _ _ _ h => h) (Or.inl ⟨by rfl, ?_⟩) HHX.out ?_ ?_
 rotate_left
 ·rintro w_ s
  refine run78 s (.tmp 0) ?_ ?_ <;> rfl
 rotate_left
 ·simp only [Act.put, List.setIfInBounds_toArray, List.set_cons_zero, List.set_cons_succ, i64_w, i32_w]
  rfl
 have HS0 := Aside0.mk (HS.out.below HDB.out)
 have HZ0 := Aside0.mk (HZ.out.below HDB.out)
 have HO0 := Aside0.mk (only_trans HW.out (of_below B HDB.out))
 have HB0 := HBY
 have HX0 := HHX
 refine one_ (i := 1) (N := some 3) #[true, true, false, true, false, false, true, false, false, false, false] rfl rfl (by kernel_rfl) (by decide) (fun K hK => ?_)
 refine goes2_ Try.func31 (by kernel_rfl) rfl #[.agg #[.pointer (some ⟨B, 0, none⟩)], .int .i64 4] (by rfl) rfl rfl (by first | rfl | (simp only [List.map_toArray, List.map_cons, List.map_nil]; rfl) | simp) ?_
 refine (get_calls B base 4 bs wv HS0.out HB0.out (by omega)).mono ?_
 rintro e w1 hg
 rcases hp : pGet 4 bs with c | ⟨x1, r1⟩
 ·obtain ⟨O, rfl⟩ := hg.no hp
  exact .inr ⟨_, rfl, rfl, Got.mk_no (by unfold pCtr; exact pBind_no hp) (only_trans HO0.out O) rfl⟩
 obtain ⟨O, v, rfl, rfl, S1, b1⟩ := hg.yes hp
 have HP1 := Aside0.mk hp
 have HO1 := Aside0.mk (only_trans HO0.out O)
 have HS1 := Aside0.mk S1
 have HB1 := Aside0.mk b1
 have HX1 := Aside0.mk (HX0.out.only O HNE.out)
 have HZ1 := Aside0.mk (HZ0.out.only O (by have := HLT.out; omega))
 have hz1 := (pGet_bd hp HB0.out).1
 have hy1 : x1 ≤ 4294967295 := by have := (pGet_bd hp HB0.out).2.1; omega
 have hq1 : IntKind.u32.wrap x1 = x1 := u32_in hz1 (by omega)
 clear hg hp O S1 b1
 refine .inl ⟨_, rfl, ?_⟩
 refine hK.out _ _ HX1.out (fun _ => ?_)
 clear hK K
 refine norm_ (a' := ?_) ?_ ?_
 rotate_left
 ·show Act.put _ (some 3) _ = _
  simp only [Act.put, List.setIfInBounds_toArray, List.set_cons_zero, List.set_cons_succ, i64_w, i32_w]
  rfl
 refine pure_ (i := 2) (N := some 4) (v := ?_) (a' := ?_) #[true, true, true, true, false, false, true, false, false, false, false] rfl rfl (by kernel_rfl) (fun _ _ _ h => h) (Or.inl ⟨by rfl, ?_⟩) ?_ ?_
 rotate_left
 ·intro w_
  go_simp
  with_reducible rfl
 rotate_left
 ·simp only [Act.put, List.setIfInBounds_toArray, List.set_cons_zero, List.set_cons_succ, i64_w, i32_w, hq1]
  rfl
 refine one_ (i := 4) (N := some 6) #[true, true, true, true, true, false, true, false, false, false, false] rfl rfl (by kernel_rfl) (by decide) (fun K hK => ?_)
 refine goes2_ Try.func31 (by kernel_rfl) rfl #[.agg #[.pointer (some ⟨B, 0, none⟩)], .int .i64 4] (by rfl) rfl rfl (by first | rfl | (simp only [List.map_toArray, List.map_cons, List.map_nil]; rfl) | simp) ?_
 refine (get_calls B base 4 r1 w1 HS1.out HB1.out (by omega)).mono ?_
 rintro e w2 hg
 rcases hp : pGet 4 r1 with c | ⟨x2, r2⟩
 ·obtain ⟨O, rfl⟩ := hg.no hp
  exact .inr ⟨_, rfl, rfl, Got.mk_no (by unfold pCtr; rw [pBind_ok HP1.out]; exact pBind_no hp) (only_trans HO1.out O) rfl⟩
 obtain ⟨O, v, rfl, rfl, S1, b1⟩ := hg.yes hp
 have HP2 := Aside0.mk hp
 have HO2 := Aside0.mk (only_trans HO1.out O)
 have HS2 := Aside0.mk S1
 have HB2 := Aside0.mk b1
 have HX2 := Aside0.mk (HX1.out.only O HNE.out)
 have HZ2 := Aside0.mk (HZ1.out.only O (by have := HLT.out; omega))
 have hz2 := (pGet_bd hp HB1.out).1
 have hy2 : x2 ≤ 4294967295 := by have := (pGet_bd hp HB1.out).2.1; omega
 have hq2 : IntKind.u32.wrap x2 = x2 := u32_in hz2 (by omega)
 clear hg hp O S1 b1
 refine .inl ⟨_, rfl, ?_⟩
 refine hK.out _ _ HX2.out (fun _ => ?_)
 clear hK K
 refine norm_ (a' := ?_) ?_ ?_
 rotate_left
 ·show Act.put _ (some 6) _ = _
  simp only [Act.put, List.setIfInBounds_toArray, List.set_cons_zero, List.set_cons_succ, i64_w, i32_w]
  rfl
 refine pure_ (i := 5) (N := some 7) (v := ?_) (a' := ?_) #[true, true, true, true, true, true, true, false, false, false, false] rfl rfl (by kernel_rfl) (fun _ _ _ h => h) (Or.inl ⟨by rfl, ?_⟩) ?_ ?_
 rotate_left
 ·intro w_
  go_simp
  with_reducible rfl
 rotate_left
 ·simp only [Act.put, List.setIfInBounds_toArray, List.set_cons_zero, List.set_cons_succ, i64_w, i32_w, hq1, hq2]
  rfl
 refine one_ (i := 7) (N := some 9) #[true, true, true, true, true, true, true, true, false, false, false] rfl rfl (by kernel_rfl) (by decide) (fun K hK => ?_)
 refine goes2_ Try.func31 (by kernel_rfl) rfl #[.agg #[.pointer (some ⟨B, 0, none⟩)], .int .i64 4] (by rfl) rfl rfl (by first | rfl | (simp only [List.map_toArray, List.map_cons, List.map_nil]; rfl) | simp) ?_
 refine (get_calls B base 4 r2 w2 HS2.out HB2.out (by omega)).mono ?_
 rintro e w3 hg
 rcases hp : pGet 4 r2 with c | ⟨x3, r3⟩
 ·obtain ⟨O, rfl⟩ := hg.no hp
  exact .inr ⟨_, rfl, rfl, Got.mk_no (by unfold pCtr; rw [pBind_ok HP1.out]; rw [pBind_ok HP2.out]; exact pBind_no hp) (only_trans HO2.out O) rfl⟩
 obtain ⟨O, v, rfl, rfl, S1, b1⟩ := hg.yes hp
 have HP3 := Aside0.mk hp
 have HO3 := Aside0.mk (only_trans HO2.out O)
 have HS3 := Aside0.mk S1
 have HB3 := Aside0.mk b1
 have HX3 := Aside0.mk (HX2.out.only O HNE.out)
 have HZ3 := Aside0.mk (HZ2.out.only O (by have := HLT.out; omega))
 have hz3 := (pGet_bd hp HB2.out).1
 have hy3 : x3 ≤ 4294967295 := by have := (pGet_bd hp HB2.out).2.1; omega
 have hq3 : IntKind.u32.wrap x3 = x3 := u32_in hz3 (by omega)
 clear hg hp O S1 b1
 refine .inl ⟨_, rfl, ?_⟩
 refine hK.out _ _ HX3.out (fun _ => ?_)
 clear hK K
 refine norm_ (a' := ?_) ?_ ?_
 rotate_left
 ·show Act.put _ (some 9) _ = _
  simp only [Act.put, List.setIfInBounds_toArray, List.set_cons_zero, List.set_cons_succ, i64_w, i32_w]
  rfl
 refine pure_ (i := 8) (N := some 10) (v := ?_) (a' := ?_) #[true, true, true, true, true, true, true, true, true, false, false] rfl rfl (by kernel_rfl) (fun _ _ _ h => h) (Or.inl ⟨by rfl, ?_⟩) ?_ ?_
 rotate_left
 ·intro w_
  go_simp
  with_reducible rfl
 rotate_left
 ·simp only [Act.put, List.setIfInBounds_toArray, List.set_cons_zero, List.set_cons_succ, i64_w, i32_w, hq1, hq2, hq3]
  rfl
 refine pure_ (i := 9) (N := some 11) (v := ?_) (a' := ?_) #[true, true, true, true, true, true, true, true, true, true, false] rfl rfl (by kernel_rfl) (fun _ _ _ h => h) (Or.inl ⟨by rfl, ?_⟩) ?_ ?_
 rotate_left
 ·intro w_
  go_simp
  with_reducible rfl
 rotate_left
 ·simp only [Act.put, List.setIfInBounds_toArray, List.set_cons_zero, List.set_cons_succ, i64_w, i32_w, hq1, hq2, hq3]
  rfl
 refine last_ (i := 10) (N := none) #[true, true, true, true, true, true, true, true, true, true, true] rfl rfl (by kernel_rfl) (by decide) (fun K hK => ?_)
 rw [if_pos (by rfl)]
 refine wp_store_row 95 (.tmp 1) (.tmp 11) rfl w.heap.size #[.int .u32 x1, .int .u32 x2, .int .u32 x3] rfl rfl 95 _ HZ3.out (by kernel_rfl) rfl (by simp [Value.oneCell']) ?_
 refine hK.out _ _ ?_
 clear hK K
 have HZe := Aside0.mk (ZBox.row HZ3.out #[.int .u32 x1, .int .u32 x2, .int .u32 x3])
 have HGe := Aside0.mk (grown_row w3 w.heap.size #[.int .u32 x1, .int .u32 x2, .int .u32 x3])
 have HSe := Aside0.mk (HS3.out.grown HGe.out (fun k hk => by injection hk with hk; subst hk; exact ⟨95, _, HZ3.out, by decide, by decide⟩))
 have HOe := Aside0.mk (only_grown HO3.out HGe.out (fun k hk => by injection hk with hk; omega))
 have HPe := Aside0.mk (show pCtr bs = .ok (⟨x1, x2, x3⟩, r3) by unfold pCtr; rw [pBind_ok HP1.out]; rw [pBind_ok HP2.out]; rw [pBind_ok HP3.out]; rfl)
 clear HGe
 generalize w3.setRow w.heap.size #[.int .u32 x1, .int .u32 x2, .int .u32 x3] = we at *
 refine done_ (by kernel_rfl) ?_
 go_wp2_with fail
 (try simp only [Exit.inBlock, Exit.then])
 refine bodyPost_ret (results_cell_row rfl _ _ w.heap.size 95 #[.int .u32 x1, .int .u32 x2, .int .u32 x3] (0, 0) _ rfl HZe.out Try.underlying95 rfl (by kernel_rfl)) rfl ?_
 exact Got.mk_yes HPe.out HOe.out _ rfl rfl HSe.out HB3.out
set_option maxRecDepth 1000000 in
set_option maxHeartbeats 4000000 in
theorem isr_calls (B base g : Nat) (bs : List Int) (w : World) (h : RdSt w base B bs) (hb : ∀ x ∈ bs, 0 ≤ x ∧ x ≤ 255) (hx : RBox w g B) :
  Calls Try.prog 49 #[.pointer (some ⟨g, 0, none⟩)] w fun e w' => Got (pIsr bs) (is107 w.heap.size) base B w e w' := by
 have HNE := Aside0.mk (rbox_ne hx h)
 have HLT := Aside0.mk (rd_lt h)
 have HBY := Aside0.mk hb
 have HB := Aside0.mk (below_a w (.cells #[.int .i64 0, .int .i64 0, .slice none 0 0] 107))
 have HS := Aside0.mk (h.below HB.out)
 have HX := Aside0.mk (hx.below HB.out)
 have HZ := Aside0.mk (show ZBox (w.alloc (.cells #[.int .i64 0, .int .i64 0, .slice none 0 0] 107)) w.heap.size #[.int .i64 0, .int .i64 0, .slice none 0 0] 107 from heap_alloc_new w _)
 clear h hb hx
 go_enter Try.func49, Try.ntmps49
 go_upto_region 1 with fail
 have HW := Aside0.mk (of_below B HB.out)
 generalize w.alloc (.cells #[.int .i64 0, .int .i64 0, .slice none 0 0] 107) = wa at *
 refine start_ (n := 8) (S := fun w_ => RBox w_ g B) (ds := [7]) #[false, false, false, false, false, false, false, false] (by kernel_rfl) rfl rfl (HX.out.below (drew_below wa)) (fun hHeld => ?_)
 have HHX := Aside0.mk hHeld
 clear hHeld
 have HDB := Aside0.mk (drew_below wa)
 generalize wa.drew = wv at *
 refine take_ (i := 0) (N := some 2) (v := ?_) (a' := ?_) #[true, false, false, false, false, false, false, false] rfl rfl (by kernel_rfl) (fun _ _ _ h => h) (Or.inl ⟨by rfl, ?_⟩) HHX.out ?_ ?_
 rotate_left
 ·rintro w_ s
  refine run78 s (.tmp 0) ?_ ?_ <;> rfl
 rotate_left
 ·simp only [Act.put, List.setIfInBounds_toArray, List.set_cons_zero, List.set_cons_succ, i64_w, i32_w]
  rfl
 refine take_ (i := 2) (N := some 4) (v := ?_) (a' := ?_) #[true, false, true, false, false, false, false, false] rfl rfl (by kernel_rfl) (fun _ _ _ h => h) (Or.inl ⟨by rfl, ?_⟩) HHX.out ?_ ?_
 rotate_left
 ·rintro w_ s
  refine run78 s (.tmp 0) ?_ ?_ <;> rfl
 rotate_left
 ·simp only [Act.put, List.setIfInBounds_toArray, List.set_cons_zero, List.set_cons_succ, i64_w, i32_w]
  rfl
 refine take_ (i := 4) (N := some 6) (v := ?_) (a' := ?_) #[true, false, true, false, true, false, false, false] rfl rfl (by kernel_rfl) (fun _ _ _ h => h) (Or.inl ⟨by rfl, ?_⟩) HHX.out ?_ ?_
 rotate_left
 ·rintro w_ s
  refine run78 s (.tmp 0) ?_ ?_ <;> rfl
 rotate_left
 ·simp only [Act.put, List.setIfInBounds_toArray, List.set_cons_zero, List.set_cons_succ, i64_w, i32_w]
  rfl
 have HS0 := Aside0.mk (HS.out.below HDB.out)
 have HZ0 := Aside0.mk (HZ.out.below HDB.out)
 have HO0 := Aside0.mk (only_trans HW.out (of_below B HDB.out))
 have HB0 := HBY
 have HX0 := HHX
 refine one_ (i := 1) (N := some 3) #[true, true, true, false, true, false, false, false] rfl rfl (by kernel_rfl) (by decide) (fun K hK => ?_)
 refine goes2_ Try.func35 (by kernel_rfl) rfl #[.agg #[.pointer (some ⟨B, 0, none⟩)]] (by rfl) rfl rfl (by first | rfl | (simp only [List.map_toArray, List.map_cons, List.map_nil]; rfl) | simp) ?_
 refine (byte_calls B base bs wv HS0.out HB0.out).mono ?_
 rintro e w1 hg
 rcases hp : pGet 1 bs with c | ⟨x1, r1⟩
 ·obtain ⟨O, rfl⟩ := hg.no hp
  exact .inr ⟨_, rfl, rfl, Got.mk_no (by unfold pIsr; exact pBind_no hp) (only_trans HO0.out O) rfl⟩
 obtain ⟨O, v, rfl, rfl, S1, b1⟩ := hg.yes hp
 have HP1 := Aside0.mk hp
 have HO1 := Aside0.mk (only_trans HO0.out O)
 have HS1 := Aside0.mk S1
 have HB1 := Aside0.mk b1
 have HX1 := Aside0.mk (HX0.out.only O HNE.out)
 have HZ1 := Aside0.mk (HZ0.out.only O (by have := HLT.out; omega))
 have hz1 := (pGet_bd hp HB0.out).1
 have hy1 : x1 ≤ 255 := by have := (pGet_bd hp HB0.out).2.1; omega
 clear hg hp O S1 b1
 refine .inl ⟨_, rfl, ?_⟩
 refine hK.out _ _ HX1.out (fun _ => ?_)
 clear hK K
 refine norm_ (a' := ?_) ?_ ?_
 rotate_left
 ·show Act.put _ (some 3) _ = _
  simp only [Act.put, List.setIfInBounds_toArray, List.set_cons_zero, List.set_cons_succ, i64_w, i32_w]
  rfl
 refine one_ (i := 3) (N := some 5) #[true, true, true, true, true, false, false, false] rfl rfl (by kernel_rfl) (by decide) (fun K hK => ?_)
 refine goes2_ Try.func35 (by kernel_rfl) rfl #[.agg #[.pointer (some ⟨B, 0, none⟩)]] (by rfl) rfl rfl (by first | rfl | (simp only [List.map_toArray, List.map_cons, List.map_nil]; rfl) | simp) ?_
 refine (byte_calls B base r1 w1 HS1.out HB1.out).mono ?_
 rintro e w2 hg
 rcases hp : pGet 1 r1 with c | ⟨x2, r2⟩
 ·obtain ⟨O, rfl⟩ := hg.no hp
  exact .inr ⟨_, rfl, rfl, Got.mk_no (by unfold pIsr; rw [pBind_ok HP1.out]; exact pBind_no hp) (only_trans HO1.out O) rfl⟩
 obtain ⟨O, v, rfl, rfl, S1, b1⟩ := hg.yes hp
 have HP2 := Aside0.mk hp
 have HO2 := Aside0.mk (only_trans HO1.out O)
 have HS2 := Aside0.mk S1
 have HB2 := Aside0.mk b1
 have HX2 := Aside0.mk (HX1.out.only O HNE.out)
 have HZ2 := Aside0.mk (HZ1.out.only O (by have := HLT.out; omega))
 have hz2 := (pGet_bd hp HB1.out).1
 have hy2 : x2 ≤ 255 := by have := (pGet_bd hp HB1.out).2.1; omega
 clear hg hp O S1 b1
 refine .inl ⟨_, rfl, ?_⟩
 refine hK.out _ _ HX2.out (fun _ => ?_)
 clear hK K
 refine norm_ (a' := ?_) ?_ ?_
 rotate_left
 ·show Act.put _ (some 5) _ = _
  simp only [Act.put, List.setIfInBounds_toArray, List.set_cons_zero, List.set_cons_succ, i64_w, i32_w]
  rfl
 refine one_ (i := 5) (N := some 7) #[true, true, true, true, true, true, false, false] rfl rfl (by kernel_rfl) (by decide) (fun K hK => ?_)
 refine goes2_ Try.func50 (by kernel_rfl) rfl #[.agg #[.pointer (some ⟨B, 0, none⟩)]] (by rfl) rfl rfl (by first | rfl | (simp only [List.map_toArray, List.map_cons, List.map_nil]; rfl) | simp) ?_
 refine (rlist_calls B base r2 w2 HS2.out HB2.out).mono ?_
 rintro e w3 hg
 rcases hp : pList r2 with c | ⟨x3, r3⟩
 ·obtain ⟨O, rfl⟩ := hg.no hp
  exact .inr ⟨_, rfl, rfl, Got.mk_no (by unfold pIsr; rw [pBind_ok HP1.out]; rw [pBind_ok HP2.out]; exact pBind_no hp) (only_trans HO2.out O) rfl⟩
 obtain ⟨O, v3, rfl, HV, S1, b1⟩ := hg.yes hp
 have HP3 := Aside0.mk hp
 have HO3 := Aside0.mk (only_trans HO2.out O)
 have HS3 := Aside0.mk S1
 have HB3 := Aside0.mk b1
 have HX3 := Aside0.mk (HX2.out.only O HNE.out)
 have HZ3 := Aside0.mk (HZ2.out.only O (by have := HLT.out; omega))
 obtain ⟨A3, c3, hv3⟩ : ∃ A c, v3 = .slice A x3.length c := Kd.R_slice HV
 subst hv3
 have HVL := Aside0.mk HV
 clear HV
 clear hg hp O S1 b1
 refine .inl ⟨_, rfl, ?_⟩
 refine hK.out _ _ HX3.out (fun _ => ?_)
 clear hK K
 refine norm_ (a' := ?_) ?_ ?_
 rotate_left
 ·show Act.put _ (some 7) _ = _
  simp only [Act.put, List.setIfInBounds_toArray, List.set_cons_zero, List.set_cons_succ, i64_w, i32_w]
  rfl
 refine pure_ (i := 6) (N := some 8) (v := ?_) (a' := ?_) #[true, true, true, true, true, true, true, false] rfl rfl (by kernel_rfl) (fun _ _ _ h => h) (Or.inl ⟨by rfl, ?_⟩) ?_ ?_
 rotate_left
 ·intro w_
  go_simp
  with_reducible rfl
 rotate_left
 ·simp only [Act.put, List.setIfInBounds_toArray, List.set_cons_zero, List.set_cons_succ, i64_w, i32_w]
  rfl
 refine last_ (i := 7) (N := none) #[true, true, true, true, true, true, true, true] rfl rfl (by kernel_rfl) (by decide) (fun K hK => ?_)
 rw [if_pos (by rfl)]
 refine wp_store_row 107 (.tmp 1) (.tmp 8) rfl w.heap.size #[.int .i64 x1, .int .i64 x2, .slice A3 x3.length c3] rfl rfl 107 _ HZ3.out (by kernel_rfl) rfl (by simp [Value.oneCell']) ?_
 refine hK.out _ _ ?_
 clear hK K
 have HZe := Aside0.mk (ZBox.row HZ3.out #[.int .i64 x1, .int .i64 x2, .slice A3 x3.length c3])
 have HGe := Aside0.mk (grown_row w3 w.heap.size #[.int .i64 x1, .int .i64 x2, .slice A3 x3.length c3])
 have HSe := Aside0.mk (HS3.out.grown HGe.out (fun k hk => by injection hk with hk; subst hk; exact ⟨107, _, HZ3.out, by decide, by decide⟩))
 have HOe := Aside0.mk (only_grown HO3.out HGe.out (fun k hk => by injection hk with hk; omega))
 have HPe := Aside0.mk (show pIsr bs = .ok (⟨x1, x2, x3⟩, r3) by unfold pIsr; rw [pBind_ok HP1.out]; rw [pBind_ok HP2.out]; rw [pBind_ok HP3.out]; rfl)
 have HVe := Aside0.mk (Kd.R_lower (R_only HVL.out HGe.out (blk_lt HZ2.out)) (Nat.le_of_lt (blk_lt HZ2.out)))
 clear HGe
 generalize w3.setRow w.heap.size #[.int .i64 x1, .int .i64 x2, .slice A3 x3.length c3] = we at *
 refine done_ (by kernel_rfl) ?_
 go_wp2_with fail
 (try simp only [Exit.inBlock, Exit.then])
 refine bodyPost_ret (results_cell_row rfl _ _ w.heap.size 107 #[.int .i64 x1, .int .i64 x2, .slice A3 x3.length c3] (0, 0) _ rfl HZe.out Try.underlying107 rfl (by kernel_rfl)) rfl ?_
 exact Got.mk_yes HPe.out HOe.out _ rfl ⟨_, _, rfl, HVe.out⟩ HSe.out HB3.out
end Go.Proofs.Ytbgcemijihpakaa.XA
end
section
namespace Go.Proofs.Ytbgcemijihpakaa.XA
set_option linter.unusedVariables false
set_option linter.unusedSimpArgs false
open Go.RowKit Go.WideMaps Go.Maps Go.Proofs.YtbgcemijihpakaaW.PrintWords Go.Proofs.YtbgcemijihpakaaW.PrintLast Go.Proofs.YtbgcemijihpakaaW.PrintMore
def is66 : World → S66 → Value → Prop := fun _ x v => v = .agg #[.bool x.f0, .int .i64 x.f1]
def pErr {α : Type} (c : Int) : Rd α := fun _ => .error c
def pRes : Rd S66 := pBind (pGet 1) fun a => pBind (pGet 1) fun b => if 1 < a then pErr 103 else pRet ⟨a == 1, b - 1⟩
set_option maxRecDepth 1000000 in
set_option maxHeartbeats 4000000 in
theorem res_calls (B base g : Nat) (bs : List Int) (w : World) (h : RdSt w base B bs) (hb : ∀ x ∈ bs, 0 ≤ x ∧ x ≤ 255) (hx : RBox w g B) :
  Calls Try.prog 41 #[.pointer (some ⟨g, 0, none⟩)] w fun e w' => Got (pRes bs) is66 base B w e w' := by
 have HNE := Aside0.mk (rbox_ne hx h)
 have HLT := Aside0.mk (rd_lt h)
 have HBY := Aside0.mk hb
 have HB := Aside0.mk (below_a w (.cells #[.bool false, .int .i64 0] 66))
 have HS := Aside0.mk (h.below HB.out)
 have HX := Aside0.mk (hx.below HB.out)
 have HZ := Aside0.mk (show ZBox (w.alloc (.cells #[.bool false, .int .i64 0] 66)) w.heap.size #[.bool false, .int .i64 0] 66 from heap_alloc_new w _)
 clear h hb hx
 go_enter Try.func41, Try.ntmps41
 go_upto_region 1 with fail
 have HW := Aside0.mk (of_below B HB.out)
 generalize w.alloc (.cells #[.bool false, .int .i64 0] 66) = wa at *
 refine start_ (n := 6) (S := fun w_ => RBox w_ g B) (ds := []) #[false, false, false, false, false, false] (by kernel_rfl) rfl rfl (HX.out.below (drew_below wa)) (fun hHeld => ?_)
 have HHX := Aside0.mk hHeld
 clear hHeld
 have HDB := Aside0.mk (drew_below wa)
 generalize wa.drew = wv at *
 refine take_ (i := 0) (N := some 4) (v := ?_) (a' := ?_) #[true, false, false, false, false, false] rfl rfl (by kernel_rfl) (fun _ _ _ h => h) (Or.inl ⟨by rfl, ?_⟩) HHX.out ?_ ?_
 rotate_left
 ·rintro w_ s
  refine run78 s (.tmp 0) ?_ ?_ <;> rfl
 rotate_left
 ·simp only [Act.put, List.setIfInBounds_toArray, List.set_cons_zero, List.set_cons_succ, i64_w, i32_w]
  rfl
 refine take_ (i := 2) (N := some 6) (v := ?_) (a' := ?_) #[true, false, true, false, false, false] rfl rfl (by kernel_rfl) (fun _ _ _ h => h) (Or.inl ⟨by rfl, ?_⟩) HHX.out ?_ ?_
 rotate_left
 ·rintro w_ s
  refine run78 s (.tmp 0) ?_ ?_ <;> rfl
 rotate_left
 ·simp only [Act.put, List.setIfInBounds_toArray, List.set_cons_zero, List.set_cons_succ, i64_w, i32_w]
  rfl
 have HS0 := Aside0.mk (HS.out.below HDB.out)
 have HZ0 := Aside0.mk (HZ.out.below HDB.out)
 have HO0 := Aside0.mk (only_trans HW.out (of_below B HDB.out))
 have HB0 := HBY
 have HX0 := HHX
 refine one_ (i := 1) (N := some 5) #[true, true, true, false, false, false] rfl rfl (by kernel_rfl) (by decide) (fun K hK => ?_)
 refine goes2_ Try.func35 (by kernel_rfl) rfl #[.agg #[.pointer (some ⟨B, 0, none⟩)]] (by rfl) rfl rfl (by first | rfl | (simp only [List.map_toArray, List.map_cons, List.map_nil]; rfl) | simp) ?_
 refine (byte_calls B base bs wv HS0.out HB0.out).mono ?_
 rintro e w1 hg
 rcases hp : pGet 1 bs with c | ⟨x1, r1⟩
 ·obtain ⟨O, rfl⟩ := hg.no hp
  exact .inr ⟨_, rfl, rfl, Got.mk_no (by unfold pRes; exact pBind_no hp) (only_trans HO0.out O) rfl⟩
 obtain ⟨O, v, rfl, rfl, S1, b1⟩ := hg.yes hp
 have HP1 := Aside0.mk hp
 have HO1 := Aside0.mk (only_trans HO0.out O)
 have HS1 := Aside0.mk S1
 have HB1 := Aside0.mk b1
 have HX1 := Aside0.mk (HX0.out.only O HNE.out)
 have HZ1 := Aside0.mk (HZ0.out.only O (by have := HLT.out; omega))
 have hz1 := (pGet_bd hp HB0.out).1
 have hy1 : x1 ≤ 255 := by have := (pGet_bd hp HB0.out).2.1; omega
 clear hg hp O S1 b1
 refine .inl ⟨_, rfl, ?_⟩
 refine hK.out _ _ HX1.out (fun _ => ?_)
 clear hK K
 refine norm_ (a' := ?_) ?_ ?_
 rotate_left
 ·show Act.put _ (some 5) _ = _
  simp only [Act.put, List.setIfInBounds_toArray, List.set_cons_zero, List.set_cons_succ, i64_w, i32_w]
  rfl
 refine one_ (i := 3) (N := some 7) #[true, true, true, true, false, false] rfl rfl (by kernel_rfl) (by decide) (fun K hK => ?_)
 refine goes2_ Try.func35 (by kernel_rfl) rfl #[.agg #[.pointer (some ⟨B, 0, none⟩)]] (by rfl) rfl rfl (by first | rfl | (simp only [List.map_toArray, List.map_cons, List.map_nil]; rfl) | simp) ?_
 refine (byte_calls B base r1 w1 HS1.out HB1.out).mono ?_
 rintro e w2 hg
 rcases hp : pGet 1 r1 with c | ⟨x2, r2⟩
 ·obtain ⟨O, rfl⟩ := hg.no hp
  exact .inr ⟨_, rfl, rfl, Got.mk_no (by unfold pRes; rw [pBind_ok HP1.out]; exact pBind_no hp) (only_trans HO1.out O) rfl⟩
 obtain ⟨O, v, rfl, rfl, S1, b1⟩ := hg.yes hp
 have HP2 := Aside0.mk hp
 have HO2 := Aside0.mk (only_trans HO1.out O)
 have HS2 := Aside0.mk S1
 have HB2 := Aside0.mk b1
 have HX2 := Aside0.mk (HX1.out.only O HNE.out)
 have HZ2 := Aside0.mk (HZ1.out.only O (by have := HLT.out; omega))
 have hz2 := (pGet_bd hp HB1.out).1
 have hy2 : x2 ≤ 255 := by have := (pGet_bd hp HB1.out).2.1; omega
 clear hg hp O S1 b1
 refine .inl ⟨_, rfl, ?_⟩
 refine hK.out _ _ HX2.out (fun _ => ?_)
 clear hK K
 refine norm_ (a' := ?_) ?_ ?_
 rotate_left
 ·show Act.put _ (some 7) _ = _
  simp only [Act.put, List.setIfInBounds_toArray, List.set_cons_zero, List.set_cons_succ, i64_w, i32_w]
  rfl
 refine pure_ (i := 4) (N := some 2) (v := ?_) (a' := ?_) #[true, true, true, true, true, false] rfl rfl (by kernel_rfl) (fun _ _ _ h => h) (Or.inl ⟨by rfl, ?_⟩) ?_ ?_
 rotate_left
 ·intro w_
  go_simp
  with_reducible rfl
 rotate_left
 ·simp only [Act.put, List.setIfInBounds_toArray, List.set_cons_zero, List.set_cons_succ, i64_w, i32_w]
  rfl
 refine pure_ (i := 5) (N := some 3) (v := ?_) (a' := ?_) #[true, true, true, true, true, true] rfl rfl (by kernel_rfl) (fun _ _ _ h => h) (Or.inl ⟨by rfl, ?_⟩) ?_ ?_
 rotate_left
 ·intro w_
  go_simp
  with_reducible rfl
 rotate_left
 ·simp only [Act.put, List.setIfInBounds_toArray, List.set_cons_zero, List.set_cons_succ, i64_w, i32_w]
  rfl
 refine done_ (by kernel_rfl) ?_
 have HY1 := Aside0.mk hy1
 have HY2 := Aside0.mk hy2
 by_cases hf : 1 < x1
 ·have HPe := Aside0.mk (show pRes bs = .error 103 by unfold pRes; rw [pBind_ok HP1.out]; rw [pBind_ok HP2.out]; rw [if_pos hf]; rfl)
  go_wp2_with fail
  refine (flag_no x1 w2 hf).mono ?_
  rintro e w3 ⟨rfl, rfl⟩
  exact ⟨rfl, Got.mk_no HPe.out HO2.out rfl⟩
 ·have HPe := Aside0.mk (show pRes bs = .ok (⟨x1 == 1, x2 - 1⟩, r2) by unfold pRes; rw [pBind_ok HP1.out]; rw [pBind_ok HP2.out]; rw [if_neg hf]; rfl)
  go_wp2_with fail
  refine (flag_yes x1 w2 (by omega)).mono ?_
  rintro e w3 ⟨rfl, rfl⟩
  generalize (x1 == 1) = fl at *
  obtain ⟨z, hzz⟩ : ∃ z : Int, z = x2 - 1 := ⟨_, rfl⟩
  have hw2 : wrap64 (x2 - 1) = z := by unfold wrap64; omega
  go_wp2_with (refine wpList_store_row rfl 66 (.tmp 1) (.tmp 12) rfl w.heap.size #[.bool fl, .int .i64 (x2 - 1)] rfl rfl 66 _ HZ2.out (by kernel_rfl) rfl (by simp [Value.oneCell']) ?_)
  have HZe := Aside0.mk (ZBox.row HZ2.out #[.bool fl, .int .i64 (x2 - 1)])
  have HGe := Aside0.mk (grown_row w3 w.heap.size #[.bool fl, .int .i64 (x2 - 1)])
  have HSe := Aside0.mk (HS2.out.grown HGe.out (fun k hk => by injection hk with hk; subst hk; exact ⟨66, _, HZ2.out, by decide, by decide⟩))
  have HOe := Aside0.mk (only_grown HO2.out HGe.out (fun k hk => by injection hk with hk; omega))
  refine bodyPost_ret (results_cell_row rfl _ _ w.heap.size 66 #[.bool fl, .int .i64 (x2 - 1)] (0, 0) _ rfl HZe.out Try.underlying66 rfl (by kernel_rfl)) rfl ?_
  exact Got.mk_yes HPe.out HOe.out _ rfl rfl HSe.out HB2.out
end Go.Proofs.Ytbgcemijihpakaa.XA
end
