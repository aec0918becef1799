/- image's reader: a task's row. -/
import Derived.Test.YtbgcemijihpakaaG29
namespace Go.Proofs.Ytbgcemijihpakaa.XA
set_option linter.unusedVariables false
set_option linter.unusedSimpArgs false
open Go.RowKit Go.WideMaps Go.Maps Go.Proofs.YtbgcemijihpakaaW.PrintWords Go.Proofs.YtbgcemijihpakaaW.PrintLast Go.Proofs.YtbgcemijihpakaaW.PrintMore
def is69 (q : Nat) : World → S69 → Value → Prop := fun w x v => ∃ A c, v = .agg #[.int .i64 x.f0, .int .i64 x.f1, .bool x.f2, .int .i64 x.f3, .int .u32 x.f4, .int .i64 x.f5, .slice A x.f6.length c, .int .u32 x.f7] ∧ (Kd.int .i64).R 3 w q (fun _ => True) (.slice A x.f6.length c) x.f6
def pTask : Rd S69 := pBind (pGet 1) fun a => pBind (pGet 1) fun b => pBind (pGet 1) fun fu => pBind (pGet 1) fun l => pBind (pGet 4) fun m => pBind (pGet 1) fun i => pBind pList fun own => pBind (pGet 1) fun au => if 1 < fu then pErr 103 else pRet ⟨a, b, fu == 1, l, m, i - 1, own, au⟩
set_option maxRecDepth 1000000 in
set_option maxHeartbeats 4000000 in
theorem task_calls (B base : Nat) (bs : List Int) (w : World) (h : RdSt w base B bs) (hb : ∀ x ∈ bs, 0 ≤ x ∧ x ≤ 255) :
  Calls Try.prog 37 #[.agg #[.pointer (some ⟨B, 0, none⟩)]] w fun e w' => Got (pTask bs) (is69 w.heap.size) base B w e w' := by
 have HLT := Aside0.mk (rd_lt h)
 have HBY := Aside0.mk hb
 have H1 := Aside0.mk (below_a w (.cells #[.pointer (some ⟨B, 0, none⟩)] 78))
 have H2 := Aside0.mk (below_a (w.alloc (.cells #[.pointer (some ⟨B, 0, none⟩)] 78)) (.cells #[.int .i64 0, .int .i64 0, .bool false, .int .i64 0, .int .u32 0, .int .i64 0, .slice none 0 0, .int .u32 0] 69))
 have HS := Aside0.mk ((h.below H1.out).below H2.out)
 have HX := Aside0.mk ((show RBox (w.alloc (.cells #[.pointer (some ⟨B, 0, none⟩)] 78)) w.heap.size B from heap_alloc_new w _).below H2.out)
 have HZ := Aside0.mk (show ZBox ((w.alloc (.cells #[.pointer (some ⟨B, 0, none⟩)] 78)).alloc (.cells #[.int .i64 0, .int .i64 0, .bool false, .int .i64 0, .int .u32 0, .int .i64 0, .slice none 0 0, .int .u32 0] 69)) (w.heap.size + 1) #[.int .i64 0, .int .i64 0, .bool false, .int .i64 0, .int .u32 0, .int .i64 0, .slice none 0 0, .int .u32 0] 69 from by
  have := heap_alloc_new (w.alloc (.cells #[.pointer (some ⟨B, 0, none⟩)] 78)) (.cells #[.int .i64 0, .int .i64 0, .bool false, .int .i64 0, .int .u32 0, .int .i64 0, .slice none 0 0, .int .u32 0] 69)
  have e : (w.alloc (.cells #[.pointer (some ⟨B, 0, none⟩)] 78)).heap.size = w.heap.size + 1 := by simp only [World.alloc, Array.size_push]
  rw [e] at this
  exact this)
 have HW := Aside0.mk (only_trans (of_below B H1.out) (of_below B H2.out))
 clear h hb H1 H2
 go_enter Try.func37, Try.ntmps37
 go_upto_region 1 with fail
 generalize (w.alloc (.cells #[.pointer (some ⟨B, 0, none⟩)] 78)).alloc (.cells #[.int .i64 0, .int .i64 0, .bool false, .int .i64 0, .int .u32 0, .int .i64 0, .slice none 0 0, .int .u32 0] 69) = wa at *
 refine start_ (n := 7) (S := fun w_ => RBox w_ w.heap.size B) (ds := [6]) #[false, false, false, false, false, false, false] (by kernel_rfl) rfl rfl (HX.out.below (drew_below wa)) (fun hHeld => ?_)
 have HHX := Aside0.mk hHeld
 clear hHeld
 have HDB := Aside0.mk (drew_below wa)
 generalize wa.drew = wv at *
 refine take_ (i := 0) (N := some 5) (v := ?_) (a' := ?_) #[true, false, false, false, false, false, false] rfl rfl (by kernel_rfl) (fun _ _ _ h => h) (Or.inl ⟨by rfl, ?_⟩) HHX.out ?_ ?_
 rotate_left
 ·rintro w_ s
  refine run78 s (.tmp 1) ?_ ?_ <;> rfl
 rotate_left
 ·simp only [Act.put, List.setIfInBounds_toArray, List.set_cons_zero, List.set_cons_succ, i64_w, i32_w]
  rfl
 refine take_ (i := 2) (N := some 7) (v := ?_) (a' := ?_) #[true, false, true, false, false, false, false] rfl rfl (by kernel_rfl) (fun _ _ _ h => h) (Or.inl ⟨by rfl, ?_⟩) HHX.out ?_ ?_
 rotate_left
 ·rintro w_ s
  refine run78 s (.tmp 1) ?_ ?_ <;> rfl
 rotate_left
 ·simp only [Act.put, List.setIfInBounds_toArray, List.set_cons_zero, List.set_cons_succ, i64_w, i32_w]
  rfl
 have HS0 := Aside0.mk (HS.out.below HDB.out)
 have HZ0 := Aside0.mk (HZ.out.below HDB.out)
 have HO0 := Aside0.mk (only_trans HW.out (of_below B HDB.out))
 have HB0 := HBY
 have HX0 := HHX
 refine join_ (fuel' := 1) #[true, true, true, true, true, true, false] (fun s : Nat × Int × Int × List Int => [(3, .pointer (some ⟨s.1, 0, none⟩)), (6, .int .i64 s.2.1), (8, .int .i64 s.2.2.1), (9, .agg #[.int .i64 s.2.1, .int .i64 s.2.2.1, .bool false, .int .i64 0, .int .u32 0, .int .i64 0, .slice none 0 0, .int .u32 0])])
  (fun s w' => ∃ r1, pGet 1 bs = .ok (s.2.1, r1) ∧ pGet 1 r1 = .ok (s.2.2.1, s.2.2.2) ∧ JSg w w' base B w.heap.size (w.heap.size + 1) s.1 #[.int .i64 0, .int .i64 0, .bool false, .int .i64 0, .int .u32 0, .int .i64 0, .slice none 0 0, .int .u32 0] #[.int .i64 0, .int .i64 0, .bool false, .int .i64 0, .int .u32 0, .int .i64 0, .slice none 0 0, .int .u32 0] 69 69 s.2.2.2) ?hcont (fun hJ => ?htree)
 case hcont =>
  rintro ⟨p, x1, x2, r2⟩ w5 ⟨r1, hp1, hp2, HJ⟩
  have HJ := Aside0.mk HJ
  have HP1 := Aside0.mk hp1
  have HP2 := Aside0.mk hp2
  clear hp1 hp2
  refine norm_ (a' := ?_) ?_ ?_
  rotate_left
  ·simp only [putAll, Act.put, List.setIfInBounds_toArray, List.set_cons_zero, List.set_cons_succ]
   rfl
  refine last_ (i := 6) (N := none) #[true, true, true, true, true, true, true] rfl rfl (by kernel_rfl) (by decide) (fun K hK => ?_)
  rw [if_pos (by rfl)]
  refine wp_store_row 69 (.tmp 3) (.tmp 9) rfl p #[.int .i64 x1, .int .i64 x2, .bool false, .int .i64 0, .int .u32 0, .int .i64 0, .slice none 0 0, .int .u32 0] rfl rfl 69 _ HJ.out.pb (by kernel_rfl) rfl (by simp [Value.oneCell']) ?_
  refine hK.out _ _ ?_
  clear hK K
  have HJ2 := Aside0.mk (HJ.out.row #[.int .i64 x1, .int .i64 x2, .bool false, .int .i64 0, .int .u32 0, .int .i64 0, .slice none 0 0, .int .u32 0] (by decide) (by decide))
  clear HJ
  generalize w5.setRow p #[.int .i64 x1, .int .i64 x2, .bool false, .int .i64 0, .int .u32 0, .int .i64 0, .slice none 0 0, .int .u32 0] = v2 at *
  refine done_ (by kernel_rfl) ?_
  go_wp2_with ((with_reducible refine gate_dst (N := 10) rfl ?_); refine load78 HJ2.out.rb rfl (.tmp 1) rfl rfl ?_)
  refine (byte_calls B base r2 v2 HJ2.out.st HJ2.out.bd).mono ?_
  rintro e w3 hg
  rcases hp : pGet 1 r2 with c | ⟨x3, r3⟩
  ·obtain ⟨O, rfl⟩ := hg.no hp
   exact ⟨rfl, Got.mk_no (by unfold pTask; rw [pBind_ok HP1.out]; rw [pBind_ok HP2.out]; exact pBind_no hp) (only_trans HJ2.out.only O) rfl⟩
  obtain ⟨O, v, rfl, hV, S1, b1⟩ := hg.yes hp
  cases hV
  have HP3 := Aside0.mk hp
  have HJ3a := Aside0.mk (HJ2.out.go O S1 b1 HLT.out)
  have hz3 := (pGet_bd hp HJ2.out.bd).1
  have hy3 : x3 ≤ 255 := by have := (pGet_bd hp HJ2.out.bd).2.1; omega
  clear hg hp O S1 b1
  go_wp2_with ((with_reducible refine gate_dst (N := 12) rfl ?_); refine load78 HJ3a.out.rb rfl (.tmp 1) rfl rfl ?_)
  refine (byte_calls B base r3 w3 HJ3a.out.st HJ3a.out.bd).mono ?_
  rintro e w4 hg
  rcases hp : pGet 1 r3 with c | ⟨x4, r4⟩
  ·obtain ⟨O, rfl⟩ := hg.no hp
   exact ⟨rfl, Got.mk_no (by unfold pTask; rw [pBind_ok HP1.out]; rw [pBind_ok HP2.out]; rw [pBind_ok HP3.out]; exact pBind_no hp) (only_trans HJ3a.out.only O) rfl⟩
  obtain ⟨O, v, rfl, hV, S1, b1⟩ := hg.yes hp
  cases hV
  have HP4 := Aside0.mk hp
  have HJ4a := Aside0.mk (HJ3a.out.go O S1 b1 HLT.out)
  have hz4 := (pGet_bd hp HJ3a.out.bd).1
  have hy4 : x4 ≤ 255 := by have := (pGet_bd hp HJ3a.out.bd).2.1; omega
  have c4 := HJ4a.out.pb.at 3 _ rfl
  have f4 := HJ4a.out.pb.fr 3
  have HJ4 := Aside0.mk (show JSg w (w4.setCell ⟨p, 3, none⟩ (.int .i64 x4)) base B w.heap.size (w.heap.size + 1) p #[.int .i64 0, .int .i64 0, .bool false, .int .i64 0, .int .u32 0, .int .i64 0, .slice none 0 0, .int .u32 0] #[.int .i64 x1, .int .i64 x2, .bool false, .int .i64 x4, .int .u32 0, .int .i64 0, .slice none 0 0, .int .u32 0] 69 69 r4 from HJ4a.out.cell 3 (.int .i64 x4) (by decide) (by decide))
  clear hg hp O S1 b1
  go_upto_region 4 with fail
  generalize w4.setCell ⟨p, 3, none⟩ (.int .i64 x4) = v4 at *
  go_wp2_with ((with_reducible refine gate_dst (N := 15) rfl ?_); refine load78 HJ4.out.rb rfl (.tmp 1) rfl rfl ?_)
  refine (get_calls B base 4 r4 v4 HJ4.out.st HJ4.out.bd (by omega)).mono ?_
  rintro e u5 hg
  rcases hp : pGet 4 r4 with c | ⟨x5, r5⟩
  ·obtain ⟨O, rfl⟩ := hg.no hp
   exact ⟨rfl, Got.mk_no (by unfold pTask; rw [pBind_ok HP1.out]; rw [pBind_ok HP2.out]; rw [pBind_ok HP3.out]; rw [pBind_ok HP4.out]; exact pBind_no hp) (only_trans HJ4.out.only O) rfl⟩
  obtain ⟨O, v, rfl, hV, S1, b1⟩ := hg.yes hp
  cases hV
  have HP5 := Aside0.mk hp
  have HJ5a := Aside0.mk (HJ4.out.go O S1 b1 HLT.out)
  have hz5 := (pGet_bd hp HJ4.out.bd).1
  have hy5 : x5 ≤ 4294967295 := by have := (pGet_bd hp HJ4.out.bd).2.1; omega
  have hq5 : IntKind.u32.wrap x5 = x5 := u32_in hz5 (by omega)
  have c5 := HJ5a.out.pb.at 4 _ rfl
  have f5 := HJ5a.out.pb.fr 4
  have HJ5 := Aside0.mk (show JSg w (u5.setCell ⟨p, 4, none⟩ (.int .u32 x5)) base B w.heap.size (w.heap.size + 1) p #[.int .i64 0, .int .i64 0, .bool false, .int .i64 0, .int .u32 0, .int .i64 0, .slice none 0 0, .int .u32 0] #[.int .i64 x1, .int .i64 x2, .bool false, .int .i64 x4, .int .u32 x5, .int .i64 0, .slice none 0 0, .int .u32 0] 69 69 r5 from HJ5a.out.cell 4 (.int .u32 x5) (by decide) (by decide))
  clear hg hp O S1 b1
  go_upto_region 5 with fail
  generalize u5.setCell ⟨p, 4, none⟩ (.int .u32 x5) = v5 at *
  go_wp2_with ((with_reducible refine gate_dst (N := 19) rfl ?_); refine load78 HJ5.out.rb rfl (.tmp 1) rfl rfl ?_)
  refine (byte_calls B base r5 v5 HJ5.out.st HJ5.out.bd).mono ?_
  rintro e w6 hg
  rcases hp : pGet 1 r5 with c | ⟨x6, r6⟩
  ·obtain ⟨O, rfl⟩ := hg.no hp
   exact ⟨rfl, Got.mk_no (by unfold pTask; rw [pBind_ok HP1.out]; rw [pBind_ok HP2.out]; rw [pBind_ok HP3.out]; rw [pBind_ok HP4.out]; rw [pBind_ok HP5.out]; exact pBind_no hp) (only_trans HJ5.out.only O) rfl⟩
  obtain ⟨O, v, rfl, hV, S1, b1⟩ := hg.yes hp
  cases hV
  have HP6 := Aside0.mk hp
  have HJ6a := Aside0.mk (HJ5.out.go O S1 b1 HLT.out)
  have hz6 := (pGet_bd hp HJ5.out.bd).1
  have hy6 : x6 ≤ 255 := by have := (pGet_bd hp HJ5.out.bd).2.1; omega
  have hw6 : wrap64 (x6 - 1) = x6 - 1 := by unfold wrap64; omega
  have c6 := HJ6a.out.pb.at 5 _ rfl
  have f6 := HJ6a.out.pb.fr 5
  have HJ6 := Aside0.mk (show JSg w (w6.setCell ⟨p, 5, none⟩ (.int .i64 (x6 - 1))) base B w.heap.size (w.heap.size + 1) p #[.int .i64 0, .int .i64 0, .bool false, .int .i64 0, .int .u32 0, .int .i64 0, .slice none 0 0, .int .u32 0] #[.int .i64 x1, .int .i64 x2, .bool false, .int .i64 x4, .int .u32 x5, .int .i64 (x6 - 1), .slice none 0 0, .int .u32 0] 69 69 r6 from HJ6a.out.cell 5 (.int .i64 (x6 - 1)) (by decide) (by decide))
  clear hg hp O S1 b1
  go_upto_region 6 with fail
  generalize w6.setCell ⟨p, 5, none⟩ (.int .i64 (x6 - 1)) = v6 at *
  go_wp2_with ((with_reducible refine gate_dst (N := 23) rfl ?_); refine load78 HJ6.out.rb rfl (.tmp 1) rfl rfl ?_)
  refine (rlist_calls B base r6 v6 HJ6.out.st HJ6.out.bd).mono ?_
  rintro e w7 hg
  rcases hp : pList r6 with c | ⟨x7, r7⟩
  ·obtain ⟨O, rfl⟩ := hg.no hp
   exact ⟨rfl, Got.mk_no (by unfold pTask; rw [pBind_ok HP1.out]; rw [pBind_ok HP2.out]; rw [pBind_ok HP3.out]; rw [pBind_ok HP4.out]; rw [pBind_ok HP5.out]; rw [pBind_ok HP6.out]; exact pBind_no hp) (only_trans HJ6.out.only O) rfl⟩
  obtain ⟨O, vl, rfl, hV, S1, b1⟩ := hg.yes hp
  
  have HP7 := Aside0.mk hp
  have HJ7a := Aside0.mk (HJ6.out.go O S1 b1 HLT.out)
  obtain ⟨A7, c7, hv7⟩ : ∃ A c, vl = .slice A x7.length c := Kd.R_slice hV
  subst hv7
  have HPL := Aside0.mk (blk_lt HJ6.out.pb)
  have HV7 := Aside0.mk hV
  clear hV
  have cc7 := HJ7a.out.pb.at 6 _ rfl
  have f7 := HJ7a.out.pb.fr 6
  have HJ7 := Aside0.mk (show JSg w (w7.setCell ⟨p, 6, none⟩ (.slice A7 x7.length c7)) base B w.heap.size (w.heap.size + 1) p #[.int .i64 0, .int .i64 0, .bool false, .int .i64 0, .int .u32 0, .int .i64 0, .slice none 0 0, .int .u32 0] #[.int .i64 x1, .int .i64 x2, .bool false, .int .i64 x4, .int .u32 x5, .int .i64 (x6 - 1), .slice A7 x7.length c7, .int .u32 0] 69 69 r7 from HJ7a.out.cell 6 (.slice A7 x7.length c7) (by decide) (by decide))
  have HR7 := Aside0.mk (show (Kd.int .i64).R 3 (w7.setCell ⟨p, 6, none⟩ (.slice A7 x7.length c7)) v6.heap.size (fun _ => True) (.slice A7 x7.length c7) x7 from by
   have := R_only HV7.out (grown_row w7 p (Array.setIfInBounds #[.int .i64 x1, .int .i64 x2, .bool false, .int .i64 x4, .int .u32 x5, .int .i64 (x6 - 1), .slice none 0 0, .int .u32 0] 6 (.slice A7 x7.length c7))) HPL.out
   rw [← setCell_eq_setRow w7 p 6 #[.int .i64 x1, .int .i64 x2, .bool false, .int .i64 x4, .int .u32 x5, .int .i64 (x6 - 1), .slice none 0 0, .int .u32 0] 69 (0, 0) (.slice A7 x7.length c7) HJ7a.out.pb] at this
   exact this)
  clear hg hp O S1 b1
  go_upto_region 7 with fail
  generalize w7.setCell ⟨p, 6, none⟩ (.slice A7 x7.length c7) = v7 at *
  go_wp2_with ((with_reducible refine gate_dst (N := 26) rfl ?_); refine load78 HJ7.out.rb rfl (.tmp 1) rfl rfl ?_)
  refine (get_calls B base 1 r7 v7 HJ7.out.st HJ7.out.bd (by omega)).mono ?_
  rintro e w8 hg
  rcases hp : pGet 1 r7 with c | ⟨x8, r8⟩
  ·obtain ⟨O, rfl⟩ := hg.no hp
   exact ⟨rfl, Got.mk_no (by unfold pTask; rw [pBind_ok HP1.out]; rw [pBind_ok HP2.out]; rw [pBind_ok HP3.out]; rw [pBind_ok HP4.out]; rw [pBind_ok HP5.out]; rw [pBind_ok HP6.out]; rw [pBind_ok HP7.out]; exact pBind_no hp) (only_trans HJ7.out.only O) rfl⟩
  obtain ⟨O, v, rfl, hV, S1, b1⟩ := hg.yes hp
  cases hV
  have HP8 := Aside0.mk hp
  have HJ8a := Aside0.mk (HJ7.out.go O S1 b1 HLT.out)
  have hz8 := (pGet_bd hp HJ7.out.bd).1
  have hy8 : x8 ≤ 255 := by have := (pGet_bd hp HJ7.out.bd).2.1; omega
  have hq8 : IntKind.u32.wrap x8 = x8 := u32_in hz8 (by omega)
  have HR8 := Aside0.mk (R_only HR7.out O (by have := HPL.out; have := HLT.out; have := HJ6.out.hq; have := HJ6.out.hp; omega))
  have c8 := HJ8a.out.pb.at 7 _ rfl
  have f8 := HJ8a.out.pb.fr 7
  have HJ8 := Aside0.mk (show JSg w (w8.setCell ⟨p, 7, none⟩ (.int .u32 x8)) base B w.heap.size (w.heap.size + 1) p #[.int .i64 0, .int .i64 0, .bool false, .int .i64 0, .int .u32 0, .int .i64 0, .slice none 0 0, .int .u32 0] #[.int .i64 x1, .int .i64 x2, .bool false, .int .i64 x4, .int .u32 x5, .int .i64 (x6 - 1), .slice A7 x7.length c7, .int .u32 x8] 69 69 r8 from HJ8a.out.cell 7 (.int .u32 x8) (by decide) (by decide))
  have HR9 := Aside0.mk (show (Kd.int .i64).R 3 (w8.setCell ⟨p, 7, none⟩ (.int .u32 x8)) v6.heap.size (fun _ => True) (.slice A7 x7.length c7) x7 from by
   have := R_only HR8.out (grown_row w8 p (Array.setIfInBounds #[.int .i64 x1, .int .i64 x2, .bool false, .int .i64 x4, .int .u32 x5, .int .i64 (x6 - 1), .slice A7 x7.length c7, .int .u32 0] 7 (.int .u32 x8))) HPL.out
   rw [← setCell_eq_setRow w8 p 7 #[.int .i64 x1, .int .i64 x2, .bool false, .int .i64 x4, .int .u32 x5, .int .i64 (x6 - 1), .slice A7 x7.length c7, .int .u32 0] 69 (0, 0) (.int .u32 x8) HJ8a.out.pb] at this
   exact this)
  clear hg hp O S1 b1
  go_upto_region 8 with fail
  generalize w8.setCell ⟨p, 7, none⟩ (.int .u32 x8) = v8 at *
  by_cases hf : 1 < x3
  ·have HPe := Aside0.mk (show pTask bs = .error 103 by unfold pTask; rw [pBind_ok HP1.out]; rw [pBind_ok HP2.out]; rw [pBind_ok HP3.out]; rw [pBind_ok HP4.out]; rw [pBind_ok HP5.out]; rw [pBind_ok HP6.out]; rw [pBind_ok HP7.out]; rw [pBind_ok HP8.out]; rw [if_pos hf]; rfl)
   go_wp2_with fail
   refine (flag_no x3 v8 hf).mono ?_
   rintro e w3 ⟨rfl, rfl⟩
   exact ⟨rfl, Got.mk_no HPe.out HJ8.out.only rfl⟩
  have HPe := Aside0.mk (show pTask bs = .ok (⟨x1, x2, x3 == 1, x4, x5, x6 - 1, x7, x8⟩, r8) by unfold pTask; rw [pBind_ok HP1.out]; rw [pBind_ok HP2.out]; rw [pBind_ok HP3.out]; rw [pBind_ok HP4.out]; rw [pBind_ok HP5.out]; rw [pBind_ok HP6.out]; rw [pBind_ok HP7.out]; rw [pBind_ok HP8.out]; rw [if_neg hf]; rfl)
  go_wp2_with fail
  refine (flag_yes x3 v8 (by omega)).mono ?_
  rintro e v9 ⟨rfl, rfl⟩
  generalize (x3 == 1) = fl at *
  have c9 := HJ8.out.pb.at 2 _ rfl
  have f9 := HJ8.out.pb.fr 2
  have HJ9 := Aside0.mk (show JSg w (v9.setCell ⟨p, 2, none⟩ (.bool fl)) base B w.heap.size (w.heap.size + 1) p #[.int .i64 0, .int .i64 0, .bool false, .int .i64 0, .int .u32 0, .int .i64 0, .slice none 0 0, .int .u32 0] #[.int .i64 x1, .int .i64 x2, .bool fl, .int .i64 x4, .int .u32 x5, .int .i64 (x6 - 1), .slice A7 x7.length c7, .int .u32 x8] 69 69 r8 from HJ8.out.cell 2 (.bool fl) (by decide) (by decide))
  have HR10 := Aside0.mk (show (Kd.int .i64).R 3 (v9.setCell ⟨p, 2, none⟩ (.bool fl)) v6.heap.size (fun _ => True) (.slice A7 x7.length c7) x7 from by
   have := R_only HR9.out (grown_row v9 p (Array.setIfInBounds #[.int .i64 x1, .int .i64 x2, .bool false, .int .i64 x4, .int .u32 x5, .int .i64 (x6 - 1), .slice A7 x7.length c7, .int .u32 x8] 2 (.bool fl))) HPL.out
   rw [← setCell_eq_setRow v9 p 2 #[.int .i64 x1, .int .i64 x2, .bool false, .int .i64 x4, .int .u32 x5, .int .i64 (x6 - 1), .slice A7 x7.length c7, .int .u32 x8] 69 (0, 0) (.bool fl) HJ8.out.pb] at this
   exact this)
  go_upto_region 9 with fail
  generalize v9.setCell ⟨p, 2, none⟩ (.bool fl) = v10 at *
  have HA := Aside0.mk (show At69 v10 ⟨p, 0, none⟩ ⟨x1, x2, fl, x4, x5, x6 - 1, x7, x8⟩ A7 c7 from ⟨cells_box2 HJ9.out.pb⟩)
  have HF := Aside0.mk (HJ9.out.fin #[.int .i64 x1, .int .i64 x2, .bool fl, .int .i64 x4, .int .u32 x5, .int .i64 (x6 - 1), .slice A7 x7.length c7, .int .u32 x8] (by decide) (by decide))
  have HV := Aside0.mk (Kd.R_lower (R_only HR10.out (grown_row v10 (w.heap.size + 1) #[.int .i64 x1, .int .i64 x2, .bool fl, .int .i64 x4, .int .u32 x5, .int .i64 (x6 - 1), .slice A7 x7.length c7, .int .u32 x8]) (by have := HPL.out; have := HJ6.out.hp; omega)) (show w.heap.size ≤ v6.heap.size from HJ6.out.only.size))
  go_wp2_with (first | ((with_reducible refine gate_dst (N := 33) rfl ?_); refine load69 HA.out rfl (.tmp 3) rfl rfl ?_) | (refine wpList_store_row rfl 69 (.tmp 2) (.tmp 33) rfl (w.heap.size + 1) #[.int .i64 x1, .int .i64 x2, .bool fl, .int .i64 x4, .int .u32 x5, .int .i64 (x6 - 1), .slice A7 x7.length c7, .int .u32 x8] rfl rfl 69 _ HJ9.out.zb (by kernel_rfl) rfl (by simp [Value.oneCell']) ?_))
  refine bodyPost_ret (results_cell_row rfl _ _ (w.heap.size + 1) 69 #[.int .i64 x1, .int .i64 x2, .bool fl, .int .i64 x4, .int .u32 x5, .int .i64 (x6 - 1), .slice A7 x7.length c7, .int .u32 x8] (0, 0) _ rfl HF.out.2.2 Try.underlying69 rfl (by kernel_rfl)) rfl ?_
  exact Got.mk_yes HPe.out HF.out.2.1 _ rfl ⟨_, _, rfl, HV.out⟩ HF.out.1 HJ9.out.bd
 case htree =>
  refine two_ (i := 1) (j := 5) (Ni := some 6) (Nj := some 3) #[true, true, true, false, false, false, false] #[true, false, true, false, false, true, false] rfl rfl rfl rfl (by kernel_rfl) (by decide) (by decide) (fun K hK => ?_) (fun K hK => ?_)
  focus
   refine goes2_ Try.func35 (by kernel_rfl) rfl #[.agg #[.pointer (some ⟨B, 0, none⟩)]] (by rfl) rfl rfl (by first | rfl | (simp only [List.map_toArray, List.map_cons, List.map_nil]; rfl) | simp) ?_
   refine (byte_calls B base bs wv HS0.out HB0.out).mono ?_
   rintro e w1 hg
   rcases hp : pGet 1 bs with c | ⟨x1, r1⟩
   ·obtain ⟨O, rfl⟩ := hg.no hp
    exact .inr ⟨_, rfl, rfl, Got.mk_no (by unfold pTask; exact pBind_no hp) (only_trans HO0.out O) rfl⟩
   obtain ⟨O, v, rfl, hV, S1, b1⟩ := hg.yes hp
   cases hV
   have HP1 := Aside0.mk hp
   have HO1 := Aside0.mk (only_trans HO0.out O)
   have HS1 := Aside0.mk S1
   have HB1 := Aside0.mk b1
   have HX1 := Aside0.mk (HX0.out.only O (by have := HLT.out; omega))
   have HZ1 := Aside0.mk (HZ0.out.only O (by have := HLT.out; omega))
   have hz1 := (pGet_bd hp HB0.out).1
   have hy1 : x1 ≤ 255 := by have := (pGet_bd hp HB0.out).2.1; omega
   clear hg hp O S1 b1
   refine .inl ⟨_, rfl, ?_⟩
   refine hK.out _ _ HX1.out (fun _ => ?_)
   clear hK K
   refine norm_ (a' := ?_) ?_ ?_
   rotate_left
   ·show Act.put _ (some 6) _ = _
    simp only [Act.put, List.setIfInBounds_toArray, List.set_cons_zero, List.set_cons_succ, i64_w, i32_w]
    rfl
   refine two_ (i := 3) (j := 5) (Ni := some 8) (Nj := some 3) #[true, true, true, true, false, false, false] #[true, true, true, false, false, true, false] rfl rfl rfl rfl (by kernel_rfl) (by decide) (by decide) (fun K hK => ?_) (fun K hK => ?_)
   focus
    refine goes2_ Try.func35 (by kernel_rfl) rfl #[.agg #[.pointer (some ⟨B, 0, none⟩)]] (by rfl) rfl rfl (by first | rfl | (simp only [List.map_toArray, List.map_cons, List.map_nil]; rfl) | simp) ?_
    refine (byte_calls B base r1 w1 HS1.out HB1.out).mono ?_
    rintro e w2 hg
    rcases hp : pGet 1 r1 with c | ⟨x2, r2⟩
    ·obtain ⟨O, rfl⟩ := hg.no hp
     exact .inr ⟨_, rfl, rfl, Got.mk_no (by unfold pTask; rw [pBind_ok HP1.out]; exact pBind_no hp) (only_trans HO1.out O) rfl⟩
    obtain ⟨O, v, rfl, hV, S1, b1⟩ := hg.yes hp
    cases hV
    have HP2 := Aside0.mk hp
    have HO2 := Aside0.mk (only_trans HO1.out O)
    have HS2 := Aside0.mk S1
    have HB2 := Aside0.mk b1
    have HX2 := Aside0.mk (HX1.out.only O (by have := HLT.out; omega))
    have HZ2 := Aside0.mk (HZ1.out.only O (by have := HLT.out; omega))
    have hz2 := (pGet_bd hp HB1.out).1
    have hy2 : x2 ≤ 255 := by have := (pGet_bd hp HB1.out).2.1; omega
    clear hg hp O S1 b1
    refine .inl ⟨_, rfl, ?_⟩
    refine hK.out _ _ HX2.out (fun _ => ?_)
    clear hK K
    refine norm_ (a' := ?_) ?_ ?_
    rotate_left
    ·show Act.put _ (some 8) _ = _
     simp only [Act.put, List.setIfInBounds_toArray, List.set_cons_zero, List.set_cons_succ, i64_w, i32_w]
     rfl
    refine pure_ (i := 4) (N := some 9) (v := ?_) (a' := ?_) #[true, true, true, true, true, false, false] rfl rfl (by kernel_rfl) (fun _ _ _ h => h) (Or.inl ⟨by rfl, ?_⟩) ?_ ?_
    rotate_left
    ·intro w_
     go_simp
     with_reducible rfl
    rotate_left
    ·simp only [Act.put, List.setIfInBounds_toArray, List.set_cons_zero, List.set_cons_succ, i64_w, i32_w]
     rfl
    refine one_ (i := 5) (N := some 3) #[true, true, true, true, true, true, false] rfl rfl (by kernel_rfl) (by decide) (fun K hK => ?_)
    go_simp
    have HD := Aside0.mk (below_a w2 (.cells #[.int .i64 0, .int .i64 0, .bool false, .int .i64 0, .int .u32 0, .int .i64 0, .slice none 0 0, .int .u32 0] 69))
    have HO3 := Aside0.mk (only_trans HO2.out (of_below B HD.out))
    have HS3 := Aside0.mk (HS2.out.below HD.out)
    have HB3 := HB2
    have HX3 := Aside0.mk (HX2.out.below HD.out)
    have HZ3 := Aside0.mk (HZ2.out.below HD.out)
    have HA3 := Aside0.mk (show ZBox (w2.alloc (.cells #[.int .i64 0, .int .i64 0, .bool false, .int .i64 0, .int .u32 0, .int .i64 0, .slice none 0 0, .int .u32 0] 69)) w2.heap.size #[.int .i64 0, .int .i64 0, .bool false, .int .i64 0, .int .u32 0, .int .i64 0, .slice none 0 0, .int .u32 0] 69 from heap_alloc_new w2 _)
    have HQ := Aside0.mk (show w.heap.size + 2 ≤ w2.heap.size by have := blk_lt HZ2.out; omega)
    clear HD
    refine hK.out _ _ HX3.out (fun _ => ?_)
    clear hK K
    generalize w2.heap.size = p at *
    generalize w2.alloc (.cells #[.int .i64 0, .int .i64 0, .bool false, .int .i64 0, .int .u32 0, .int .i64 0, .slice none 0 0, .int .u32 0] 69) = w3 at *
    exact hJ (p, x1, x2, r2) w3 ⟨_, HP1.out, HP2.out, ⟨HS3.out, HO3.out, HB3.out, HX3.out, HZ3.out, HA3.out, Nat.lt_succ_self _, Nat.le_succ _, HQ.out⟩⟩
   go_simp
   have HD := Aside0.mk (below_a w1 (.cells #[.int .i64 0, .int .i64 0, .bool false, .int .i64 0, .int .u32 0, .int .i64 0, .slice none 0 0, .int .u32 0] 69))
   have HO2 := Aside0.mk (only_trans HO1.out (of_below B HD.out))
   have HS2 := Aside0.mk (HS1.out.below HD.out)
   have HB2 := HB1
   have HX2 := Aside0.mk (HX1.out.below HD.out)
   have HZ2 := Aside0.mk (HZ1.out.below HD.out)
   have HA2 := Aside0.mk (show ZBox (w1.alloc (.cells #[.int .i64 0, .int .i64 0, .bool false, .int .i64 0, .int .u32 0, .int .i64 0, .slice none 0 0, .int .u32 0] 69)) w1.heap.size #[.int .i64 0, .int .i64 0, .bool false, .int .i64 0, .int .u32 0, .int .i64 0, .slice none 0 0, .int .u32 0] 69 from heap_alloc_new w1 _)
   have HQ := Aside0.mk (show w.heap.size + 2 ≤ w1.heap.size by have := blk_lt HZ1.out; omega)
   clear HD
   refine hK.out _ _ HX2.out (fun _ => ?_)
   clear hK K
   generalize w1.heap.size = p at *
   generalize w1.alloc (.cells #[.int .i64 0, .int .i64 0, .bool false, .int .i64 0, .int .u32 0, .int .i64 0, .slice none 0 0, .int .u32 0] 69) = w2 at *
   refine one_ (i := 3) (N := some 8) #[true, true, true, true, false, true, false] rfl rfl (by kernel_rfl) (by decide) (fun K hK => ?_)
   refine goes2_ Try.func35 (by kernel_rfl) rfl #[.agg #[.pointer (some ⟨B, 0, none⟩)]] (by rfl) rfl rfl (by first | rfl | (simp only [List.map_toArray, List.map_cons, List.map_nil]; rfl) | simp) ?_
   refine (byte_calls B base r1 w2 HS2.out HB2.out).mono ?_
   rintro e w3 hg
   rcases hp : pGet 1 r1 with c | ⟨x2, r2⟩
   ·obtain ⟨O, rfl⟩ := hg.no hp
    exact .inr ⟨_, rfl, rfl, Got.mk_no (by unfold pTask; rw [pBind_ok HP1.out]; exact pBind_no hp) (only_trans HO2.out O) rfl⟩
   obtain ⟨O, v, rfl, hV, S1, b1⟩ := hg.yes hp
   cases hV
   have HP2 := Aside0.mk hp
   have HO3 := Aside0.mk (only_trans HO2.out O)
   have HS3 := Aside0.mk S1
   have HB3 := Aside0.mk b1
   have HX3 := Aside0.mk (HX2.out.only O (by have := HLT.out; omega))
   have HZ3 := Aside0.mk (HZ2.out.only O (by have := HLT.out; omega))
   have HA3 := Aside0.mk (HA2.out.only O (by have := HLT.out; have := HQ.out; omega))
   have hz2 := (pGet_bd hp HB2.out).1
   have hy2 : x2 ≤ 255 := by have := (pGet_bd hp HB2.out).2.1; omega
   clear hg hp O S1 b1
   refine .inl ⟨_, rfl, ?_⟩
   refine hK.out _ _ HX3.out (fun _ => ?_)
   clear hK K
   refine norm_ (a' := ?_) ?_ ?_
   rotate_left
   ·show Act.put _ (some 8) _ = _
    simp only [Act.put, List.setIfInBounds_toArray, List.set_cons_zero, List.set_cons_succ, i64_w, i32_w]
    rfl
   refine pure_ (i := 4) (N := some 9) (v := ?_) (a' := ?_) #[true, true, true, true, true, true, false] rfl rfl (by kernel_rfl) (fun _ _ _ h => h) (Or.inl ⟨by rfl, ?_⟩) ?_ ?_
   rotate_left
   ·intro w_
    go_simp
    with_reducible rfl
   rotate_left
   ·simp only [Act.put, List.setIfInBounds_toArray, List.set_cons_zero, List.set_cons_succ, i64_w, i32_w]
    rfl
   exact hJ (p, x1, x2, r2) w3 ⟨_, HP1.out, HP2.out, ⟨HS3.out, HO3.out, HB3.out, HX3.out, HZ3.out, HA3.out, Nat.lt_succ_self _, Nat.le_succ _, HQ.out⟩⟩
  go_simp
  have HD := Aside0.mk (below_a wv (.cells #[.int .i64 0, .int .i64 0, .bool false, .int .i64 0, .int .u32 0, .int .i64 0, .slice none 0 0, .int .u32 0] 69))
  have HO1 := Aside0.mk (only_trans HO0.out (of_below B HD.out))
  have HS1 := Aside0.mk (HS0.out.below HD.out)
  have HB1 := HB0
  have HX1 := Aside0.mk (HX0.out.below HD.out)
  have HZ1 := Aside0.mk (HZ0.out.below HD.out)
  have HA1 := Aside0.mk (show ZBox (wv.alloc (.cells #[.int .i64 0, .int .i64 0, .bool false, .int .i64 0, .int .u32 0, .int .i64 0, .slice none 0 0, .int .u32 0] 69)) wv.heap.size #[.int .i64 0, .int .i64 0, .bool false, .int .i64 0, .int .u32 0, .int .i64 0, .slice none 0 0, .int .u32 0] 69 from heap_alloc_new wv _)
  have HQ := Aside0.mk (show w.heap.size + 2 ≤ wv.heap.size by have := blk_lt HZ0.out; omega)
  clear HD
  refine hK.out _ _ HX1.out (fun _ => ?_)
  clear hK K
  generalize wv.heap.size = p at *
  generalize wv.alloc (.cells #[.int .i64 0, .int .i64 0, .bool false, .int .i64 0, .int .u32 0, .int .i64 0, .slice none 0 0, .int .u32 0] 69) = w1 at *
  refine one_ (i := 1) (N := some 6) #[true, true, true, false, false, true, false] rfl rfl (by kernel_rfl) (by decide) (fun K hK => ?_)
  refine goes2_ Try.func35 (by kernel_rfl) rfl #[.agg #[.pointer (some ⟨B, 0, none⟩)]] (by rfl) rfl rfl (by first | rfl | (simp only [List.map_toArray, List.map_cons, List.map_nil]; rfl) | simp) ?_
  refine (byte_calls B base bs w1 HS1.out HB1.out).mono ?_
  rintro e w2 hg
  rcases hp : pGet 1 bs with c | ⟨x1, r1⟩
  ·obtain ⟨O, rfl⟩ := hg.no hp
   exact .inr ⟨_, rfl, rfl, Got.mk_no (by unfold pTask; exact pBind_no hp) (only_trans HO1.out O) rfl⟩
  obtain ⟨O, v, rfl, hV, S1, b1⟩ := hg.yes hp
  cases hV
  have HP1 := Aside0.mk hp
  have HO2 := Aside0.mk (only_trans HO1.out O)
  have HS2 := Aside0.mk S1
  have HB2 := Aside0.mk b1
  have HX2 := Aside0.mk (HX1.out.only O (by have := HLT.out; omega))
  have HZ2 := Aside0.mk (HZ1.out.only O (by have := HLT.out; omega))
  have HA2 := Aside0.mk (HA1.out.only O (by have := HLT.out; have := HQ.out; omega))
  have hz1 := (pGet_bd hp HB1.out).1
  have hy1 : x1 ≤ 255 := by have := (pGet_bd hp HB1.out).2.1; omega
  clear hg hp O S1 b1
  refine .inl ⟨_, rfl, ?_⟩
  refine hK.out _ _ HX2.out (fun _ => ?_)
  clear hK K
  refine norm_ (a' := ?_) ?_ ?_
  rotate_left
  ·show Act.put _ (some 6) _ = _
   simp only [Act.put, List.setIfInBounds_toArray, List.set_cons_zero, List.set_cons_succ, i64_w, i32_w]
   rfl
  refine one_ (i := 3) (N := some 8) #[true, true, true, true, false, true, false] rfl rfl (by kernel_rfl) (by decide) (fun K hK => ?_)
  refine goes2_ Try.func35 (by kernel_rfl) rfl #[.agg #[.pointer (some ⟨B, 0, none⟩)]] (by rfl) rfl rfl (by first | rfl | (simp only [List.map_toArray, List.map_cons, List.map_nil]; rfl) | simp) ?_
  refine (byte_calls B base r1 w2 HS2.out HB2.out).mono ?_
  rintro e w3 hg
  rcases hp : pGet 1 r1 with c | ⟨x2, r2⟩
  ·obtain ⟨O, rfl⟩ := hg.no hp
   exact .inr ⟨_, rfl, rfl, Got.mk_no (by unfold pTask; rw [pBind_ok HP1.out]; exact pBind_no hp) (only_trans HO2.out O) rfl⟩
  obtain ⟨O, v, rfl, hV, S1, b1⟩ := hg.yes hp
  cases hV
  have HP2 := Aside0.mk hp
  have HO3 := Aside0.mk (only_trans HO2.out O)
  have HS3 := Aside0.mk S1
  have HB3 := Aside0.mk b1
  have HX3 := Aside0.mk (HX2.out.only O (by have := HLT.out; omega))
  have HZ3 := Aside0.mk (HZ2.out.only O (by have := HLT.out; omega))
  have HA3 := Aside0.mk (HA2.out.only O (by have := HLT.out; have := HQ.out; omega))
  have hz2 := (pGet_bd hp HB2.out).1
  have hy2 : x2 ≤ 255 := by have := (pGet_bd hp HB2.out).2.1; omega
  clear hg hp O S1 b1
  refine .inl ⟨_, rfl, ?_⟩
  refine hK.out _ _ HX3.out (fun _ => ?_)
  clear hK K
  refine norm_ (a' := ?_) ?_ ?_
  rotate_left
  ·show Act.put _ (some 8) _ = _
   simp only [Act.put, List.setIfInBounds_toArray, List.set_cons_zero, List.set_cons_succ, i64_w, i32_w]
   rfl
  refine pure_ (i := 4) (N := some 9) (v := ?_) (a' := ?_) #[true, true, true, true, true, true, false] rfl rfl (by kernel_rfl) (fun _ _ _ h => h) (Or.inl ⟨by rfl, ?_⟩) ?_ ?_
  rotate_left
  ·intro w_
   go_simp
   with_reducible rfl
  rotate_left
  ·simp only [Act.put, List.setIfInBounds_toArray, List.set_cons_zero, List.set_cons_succ, i64_w, i32_w]
   rfl
  exact hJ (p, x1, x2, r2) w3 ⟨_, HP1.out, HP2.out, ⟨HS3.out, HO3.out, HB3.out, HX3.out, HZ3.out, HA3.out, Nat.lt_succ_self _, Nat.le_succ _, HQ.out⟩⟩
end Go.Proofs.Ytbgcemijihpakaa.XA
