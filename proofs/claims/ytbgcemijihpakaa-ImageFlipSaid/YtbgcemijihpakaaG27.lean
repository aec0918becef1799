/- image's reader: an action. -/
import Derived.Test.YtbgcemijihpakaaG26
namespace Go.Proofs.Ytbgcemijihpakaa.XA
set_option linter.unusedVariables false
set_option linter.unusedSimpArgs false
open Go.RowKit Go.WideMaps Go.Maps Go.Proofs.YtbgcemijihpakaaW.PrintWords Go.Proofs.YtbgcemijihpakaaW.PrintLast Go.Proofs.YtbgcemijihpakaaW.PrintMore
def is100 : World → S100 → Value → Prop := fun _ x v => v = .agg #[.int .i64 x.f0, .int .i64 x.f1, .int .u32 x.f2]
def pAct : Rd S100 := pBind (pGet 1) fun a => pBind (pGet 1) fun b => pBind (pGet 4) fun c => pRet ⟨a, b, c⟩
structure JSt (w w' : World) (base B p : Nat) (z0 z : Array Value) (t0 t : TypeId) (r : List Int) : Prop where
  st : RdSt w' base B r
  only : RdOnly w w' B
  bd : ∀ y ∈ r, 0 ≤ y ∧ y ≤ 255
  rb : RBox w' w.heap.size B
  zb : ZBox w' (w.heap.size + 1) z0 t0
  pb : ZBox w' p z t
  hp : w.heap.size + 2 ≤ p
theorem JSt.row {w w' : World} {base B p : Nat} {z0 z : Array Value} {t0 t : TypeId} {r : List Int} (h : JSt w w' base B p z0 z t0 t r) (cs : Array Value) (h1 : t ≠ 154) (h2 : t ≠ 5) : JSt w (w'.setRow p cs) base B p z0 cs t0 t r :=
  ⟨h.st.grown (grown_row w' p cs) (fun k hk => by injection hk with hk; subst hk; exact ⟨t, _, h.pb, h1, h2⟩), only_grown h.only (grown_row w' p cs) (fun k hk => by injection hk with hk; have := h.hp; omega), h.bd,
   h.rb.grown (grown_row w' p cs) (fun he => by injection he with he; have := h.hp; omega), (setRow_other w' p (w.heap.size + 1) cs (by have := h.hp; omega)).trans h.zb, ZBox.row h.pb cs, h.hp⟩
theorem JSt.cell {w w' : World} {base B p : Nat} {z0 z : Array Value} {t0 t : TypeId} {r : List Int} (h : JSt w w' base B p z0 z t0 t r) (i : Nat) (v : Value) (h1 : t ≠ 154) (h2 : t ≠ 5) : JSt w (w'.setCell ⟨p, i, none⟩ v) base B p z0 (z.setIfInBounds i v) t0 t r := by
  have := h.row (z.setIfInBounds i v) h1 h2
  rw [← setCell_eq_setRow w' p i z t (0, 0) v h.pb] at this
  exact this
theorem JSt.go {w w' w2 : World} {base B p : Nat} {z0 z : Array Value} {t0 t : TypeId} {r r2 : List Int} (h : JSt w w' base B p z0 z t0 t r) (O : RdOnly w' w2 B) (S : RdSt w2 base B r2) (b : ∀ y ∈ r2, 0 ≤ y ∧ y ≤ 255) (hB : B < w.heap.size) : JSt w w2 base B p z0 z t0 t r2 :=
  ⟨S, only_trans h.only O, b, h.rb.only O (by omega), h.zb.only O (by omega), h.pb.only O (by have := h.hp; omega), h.hp⟩
theorem JSt.fin {w w' : World} {base B p : Nat} {z0 z : Array Value} {t0 t : TypeId} {r : List Int} (h : JSt w w' base B p z0 z t0 t r) (cs : Array Value) (h1 : t0 ≠ 154) (h2 : t0 ≠ 5) : RdSt (w'.setRow (w.heap.size + 1) cs) base B r ∧ RdOnly w (w'.setRow (w.heap.size + 1) cs) B ∧ ZBox (w'.setRow (w.heap.size + 1) cs) (w.heap.size + 1) cs t0 :=
  ⟨h.st.grown (grown_row w' _ cs) (fun k hk => by injection hk with hk; subst hk; exact ⟨t0, _, h.zb, h1, h2⟩), only_grown h.only (grown_row w' _ cs) (fun k hk => by injection hk with hk; omega), ZBox.row h.zb cs⟩
theorem ZBox.fr {w : World} {g : Nat} {z : Array Value} {t : TypeId} (h : ZBox w g z t) (j : Nat) : w.frozen? ⟨g, j, none⟩ = false := by
  unfold ZBox at h
  simp [World.frozen?, h]
set_option maxRecDepth 1000000 in
set_option maxHeartbeats 4000000 in
theorem ract_calls (B base : Nat) (bs : List Int) (w : World) (h : RdSt w base B bs) (hb : ∀ x ∈ bs, 0 ≤ x ∧ x ≤ 255) :
    Calls Try.prog 47 #[.agg #[.pointer (some ⟨B, 0, none⟩)]] w fun e w' => Got (pAct bs) is100 base B w e w' := by
  have HLT := Aside0.mk (rd_lt h)
  have HBY := Aside0.mk hb
  have H1 := Aside0.mk (below_a w (.cells #[.pointer (some ⟨B, 0, none⟩)] 78))
  have H2 := Aside0.mk (below_a (w.alloc (.cells #[.pointer (some ⟨B, 0, none⟩)] 78)) (.cells #[.int .i64 0, .int .i64 0, .int .u32 0] 100))
  have HS := Aside0.mk ((h.below H1.out).below H2.out)
  have HX := Aside0.mk ((show RBox (w.alloc (.cells #[.pointer (some ⟨B, 0, none⟩)] 78)) w.heap.size B from heap_alloc_new w _).below H2.out)
  have HZ := Aside0.mk (show ZBox ((w.alloc (.cells #[.pointer (some ⟨B, 0, none⟩)] 78)).alloc (.cells #[.int .i64 0, .int .i64 0, .int .u32 0] 100)) (w.heap.size + 1) #[.int .i64 0, .int .i64 0, .int .u32 0] 100 from by
    have := heap_alloc_new (w.alloc (.cells #[.pointer (some ⟨B, 0, none⟩)] 78)) (.cells #[.int .i64 0, .int .i64 0, .int .u32 0] 100)
    have e : (w.alloc (.cells #[.pointer (some ⟨B, 0, none⟩)] 78)).heap.size = w.heap.size + 1 := by simp only [World.alloc, Array.size_push]
    rw [e] at this
    exact this)
  have HW := Aside0.mk (only_trans (of_below B H1.out) (of_below B H2.out))
  clear h hb H1 H2
  go_enter Try.func47, Try.ntmps47
  go_upto_region 1 with fail
  generalize (w.alloc (.cells #[.pointer (some ⟨B, 0, none⟩)] 78)).alloc (.cells #[.int .i64 0, .int .i64 0, .int .u32 0] 100) = wa at *
  refine start_ (n := 7) (S := fun w_ => RBox w_ w.heap.size B) (ds := [6]) #[false, false, false, false, false, false, false] (by kernel_rfl) rfl rfl (HX.out.below (drew_below wa)) (fun hHeld => ?_)
  have HHX := Aside0.mk hHeld
  clear hHeld
  have HDB := Aside0.mk (drew_below wa)
  generalize wa.drew = wv at *
  refine take_ (i := 0) (N := some 4) (v := ?_) (a' := ?_) #[true, false, false, false, false, false, false] rfl rfl (by kernel_rfl) (fun _ _ _ h => h) (Or.inl ⟨by rfl, ?_⟩) HHX.out ?_ ?_
  rotate_left
  · rintro w_ s
    refine run78 s (.tmp 1) ?_ ?_ <;> rfl
  rotate_left
  · simp only [Act.put, List.setIfInBounds_toArray, List.set_cons_zero, List.set_cons_succ, i64_w, i32_w]
    rfl
  refine take_ (i := 2) (N := some 6) (v := ?_) (a' := ?_) #[true, false, true, false, false, false, false] rfl rfl (by kernel_rfl) (fun _ _ _ h => h) (Or.inl ⟨by rfl, ?_⟩) HHX.out ?_ ?_
  rotate_left
  · rintro w_ s
    refine run78 s (.tmp 1) ?_ ?_ <;> rfl
  rotate_left
  · simp only [Act.put, List.setIfInBounds_toArray, List.set_cons_zero, List.set_cons_succ, i64_w, i32_w]
    rfl
  have HS0 := Aside0.mk (HS.out.below HDB.out)
  have HZ0 := Aside0.mk (HZ.out.below HDB.out)
  have HO0 := Aside0.mk (only_trans HW.out (of_below B HDB.out))
  have HB0 := HBY
  have HX0 := HHX
  refine join_ (fuel' := 1) #[true, true, true, true, true, true, false] (fun s : Nat × Int × Int × List Int => [(3, .pointer (some ⟨s.1, 0, none⟩)), (5, .int .i64 s.2.1), (7, .int .i64 s.2.2.1), (8, .agg #[.int .i64 s.2.1, .int .i64 s.2.2.1, .int .u32 0])])
    (fun s w' => ∃ r1, pGet 1 bs = .ok (s.2.1, r1) ∧ pGet 1 r1 = .ok (s.2.2.1, s.2.2.2) ∧ JSt w w' base B s.1 #[.int .i64 0, .int .i64 0, .int .u32 0] #[.int .i64 0, .int .i64 0, .int .u32 0] 100 100 s.2.2.2) ?hcont (fun hJ => ?htree)
  case hcont =>
    rintro ⟨p, x1, x2, r2⟩ w5 ⟨r1, hp1, hp2, HJ⟩
    have HJ := Aside0.mk HJ
    have HP1 := Aside0.mk hp1
    have HP2 := Aside0.mk hp2
    clear hp1 hp2
    refine norm_ (a' := ?_) ?_ ?_
    rotate_left
    · simp only [putAll, Act.put, List.setIfInBounds_toArray, List.set_cons_zero, List.set_cons_succ]
      rfl
    refine last_ (i := 6) (N := none) #[true, true, true, true, true, true, true] rfl rfl (by kernel_rfl) (by decide) (fun K hK => ?_)
    rw [if_pos (by rfl)]
    refine wp_store_row 100 (.tmp 3) (.tmp 8) rfl p #[.int .i64 x1, .int .i64 x2, .int .u32 0] rfl rfl 100 _ HJ.out.pb (by kernel_rfl) rfl (by simp [Value.oneCell']) ?_
    refine hK.out _ _ ?_
    clear hK K
    have HJ2 := Aside0.mk (HJ.out.row #[.int .i64 x1, .int .i64 x2, .int .u32 0] (by decide) (by decide))
    clear HJ
    generalize w5.setRow p #[.int .i64 x1, .int .i64 x2, .int .u32 0] = w6 at *
    refine done_ (by kernel_rfl) ?_
    go_wp2_with ((with_reducible refine gate_dst (N := 9) rfl ?_); refine load78 HJ2.out.rb rfl (.tmp 1) rfl rfl ?_)
    refine (get_calls B base 4 r2 w6 HJ2.out.st HJ2.out.bd (by omega)).mono ?_
    rintro e w7 hg
    rcases hp : pGet 4 r2 with c | ⟨x3, r3⟩
    · obtain ⟨O, rfl⟩ := hg.no hp
      exact ⟨rfl, Got.mk_no (by unfold pAct; rw [pBind_ok HP1.out]; rw [pBind_ok HP2.out]; exact pBind_no hp) (only_trans HJ2.out.only O) rfl⟩
    · obtain ⟨O, v, rfl, hV, S1, b1⟩ := hg.yes hp
      cases hV
      have HP3 := Aside0.mk hp
      have HJ3 := Aside0.mk (HJ2.out.go O S1 b1 HLT.out)
      have hz3 := (pGet_bd hp HJ2.out.bd).1
      have hy3 : x3 ≤ 4294967295 := by have := (pGet_bd hp HJ2.out.bd).2.1; omega
      have hq3 : IntKind.u32.wrap x3 = x3 := u32_in hz3 (by omega)
      have c2 := HJ3.out.pb.at 2 _ rfl
      have f2 := HJ3.out.pb.fr 2
      have HPe := Aside0.mk (show pAct bs = .ok (⟨x1, x2, x3⟩, r3) by unfold pAct; rw [pBind_ok HP1.out]; rw [pBind_ok HP2.out]; rw [pBind_ok HP3.out]; rfl)
      have HJ4 := Aside0.mk (HJ3.out.cell 2 (.int .u32 x3) (by decide) (by decide))
      have HA4 := Aside0.mk (show At100 (w7.setCell ⟨p, 2, none⟩ (.int .u32 x3)) ⟨p, 0, none⟩ ⟨x1, x2, x3⟩ from ⟨cells_box2 HJ4.out.pb⟩)
      have HF := Aside0.mk (HJ4.out.fin #[.int .i64 x1, .int .i64 x2, .int .u32 x3] (by decide) (by decide))
      clear hg hp O S1 b1
      go_wp2_with (first | ((with_reducible refine gate_dst (N := 13) rfl ?_); refine load100 HA4.out rfl (.tmp 3) rfl rfl ?_) | (refine wpList_store_row rfl 100 (.tmp 2) (.tmp 13) rfl (w.heap.size + 1) #[.int .i64 x1, .int .i64 x2, .int .u32 x3] rfl rfl 100 _ HJ4.out.zb (by kernel_rfl) rfl (by simp [Value.oneCell']) ?_))
      refine bodyPost_ret (results_cell_row rfl _ _ (w.heap.size + 1) 100 #[.int .i64 x1, .int .i64 x2, .int .u32 x3] (0, 0) _ rfl HF.out.2.2 Try.underlying100 rfl (by kernel_rfl)) rfl ?_
      exact Got.mk_yes HPe.out HF.out.2.1 _ rfl rfl HF.out.1 HJ4.out.bd
  case htree =>
    refine two_ (i := 1) (j := 5) (Ni := some 5) (Nj := some 3) #[true, true, true, false, false, false, false] #[true, false, true, false, false, true, false] rfl rfl rfl rfl (by kernel_rfl) (by decide) (by decide) (fun K hK => ?_) (fun K hK => ?_)
    focus
      refine goes2_ Try.func35 (by kernel_rfl) rfl #[.agg #[.pointer (some ⟨B, 0, none⟩)]] (by rfl) rfl rfl (by first | rfl | (simp only [List.map_toArray, List.map_cons, List.map_nil]; rfl) | simp) ?_
      refine (byte_calls B base bs wv HS0.out HB0.out).mono ?_
      rintro e w1 hg
      rcases hp : pGet 1 bs with c | ⟨x1, r1⟩
      · obtain ⟨O, rfl⟩ := hg.no hp
        exact .inr ⟨_, rfl, rfl, Got.mk_no (by unfold pAct; exact pBind_no hp) (only_trans HO0.out O) rfl⟩
      obtain ⟨O, v, rfl, hV, S1, b1⟩ := hg.yes hp
      cases hV
      have HP1 := Aside0.mk hp
      have HO1 := Aside0.mk (only_trans HO0.out O)
      have HS1 := Aside0.mk S1
      have HB1 := Aside0.mk b1
      have HX1 := Aside0.mk (HX0.out.only O (by have := HLT.out; omega))
      have HZ1 := Aside0.mk (HZ0.out.only O (by have := HLT.out; omega))
      have hz1 := (pGet_bd hp HB0.out).1
      have hy1 : x1 ≤ 255 := by have := (pGet_bd hp HB0.out).2.1; omega
      clear hg hp O S1 b1
      refine .inl ⟨_, rfl, ?_⟩
      refine hK.out _ _ HX1.out (fun _ => ?_)
      clear hK K
      refine norm_ (a' := ?_) ?_ ?_
      rotate_left
      · show Act.put _ (some 5) _ = _
        simp only [Act.put, List.setIfInBounds_toArray, List.set_cons_zero, List.set_cons_succ, i64_w, i32_w]
        rfl
      refine two_ (i := 3) (j := 5) (Ni := some 7) (Nj := some 3) #[true, true, true, true, false, false, false] #[true, true, true, false, false, true, false] rfl rfl rfl rfl (by kernel_rfl) (by decide) (by decide) (fun K hK => ?_) (fun K hK => ?_)
      focus
        refine goes2_ Try.func35 (by kernel_rfl) rfl #[.agg #[.pointer (some ⟨B, 0, none⟩)]] (by rfl) rfl rfl (by first | rfl | (simp only [List.map_toArray, List.map_cons, List.map_nil]; rfl) | simp) ?_
        refine (byte_calls B base r1 w1 HS1.out HB1.out).mono ?_
        rintro e w2 hg
        rcases hp : pGet 1 r1 with c | ⟨x2, r2⟩
        · obtain ⟨O, rfl⟩ := hg.no hp
          exact .inr ⟨_, rfl, rfl, Got.mk_no (by unfold pAct; rw [pBind_ok HP1.out]; exact pBind_no hp) (only_trans HO1.out O) rfl⟩
        obtain ⟨O, v, rfl, hV, S1, b1⟩ := hg.yes hp
        cases hV
        have HP2 := Aside0.mk hp
        have HO2 := Aside0.mk (only_trans HO1.out O)
        have HS2 := Aside0.mk S1
        have HB2 := Aside0.mk b1
        have HX2 := Aside0.mk (HX1.out.only O (by have := HLT.out; omega))
        have HZ2 := Aside0.mk (HZ1.out.only O (by have := HLT.out; omega))
        have hz2 := (pGet_bd hp HB1.out).1
        have hy2 : x2 ≤ 255 := by have := (pGet_bd hp HB1.out).2.1; omega
        clear hg hp O S1 b1
        refine .inl ⟨_, rfl, ?_⟩
        refine hK.out _ _ HX2.out (fun _ => ?_)
        clear hK K
        refine norm_ (a' := ?_) ?_ ?_
        rotate_left
        · show Act.put _ (some 7) _ = _
          simp only [Act.put, List.setIfInBounds_toArray, List.set_cons_zero, List.set_cons_succ, i64_w, i32_w]
          rfl
        refine pure_ (i := 4) (N := some 8) (v := ?_) (a' := ?_) #[true, true, true, true, true, false, false] rfl rfl (by kernel_rfl) (fun _ _ _ h => h) (Or.inl ⟨by rfl, ?_⟩) ?_ ?_
        rotate_left
        · intro w_
          go_simp
          with_reducible rfl
        rotate_left
        · simp only [Act.put, List.setIfInBounds_toArray, List.set_cons_zero, List.set_cons_succ, i64_w, i32_w]
          rfl
        refine one_ (i := 5) (N := some 3) #[true, true, true, true, true, true, false] rfl rfl (by kernel_rfl) (by decide) (fun K hK => ?_)
        go_simp
        have HD := Aside0.mk (below_a w2 (.cells #[.int .i64 0, .int .i64 0, .int .u32 0] 100))
        have HO3 := Aside0.mk (only_trans HO2.out (of_below B HD.out))
        have HS3 := Aside0.mk (HS2.out.below HD.out)
        have HB3 := HB2
        have HX3 := Aside0.mk (HX2.out.below HD.out)
        have HZ3 := Aside0.mk (HZ2.out.below HD.out)
        have HA3 := Aside0.mk (show ZBox (w2.alloc (.cells #[.int .i64 0, .int .i64 0, .int .u32 0] 100)) w2.heap.size #[.int .i64 0, .int .i64 0, .int .u32 0] 100 from heap_alloc_new w2 _)
        have HQ := Aside0.mk (show w.heap.size + 2 ≤ w2.heap.size by have := blk_lt HZ2.out; omega)
        clear HD
        refine hK.out _ _ HX3.out (fun _ => ?_)
        clear hK K
        generalize w2.heap.size = p at *
        generalize w2.alloc (.cells #[.int .i64 0, .int .i64 0, .int .u32 0] 100) = w3 at *
        exact hJ (p, x1, x2, r2) w3 ⟨_, HP1.out, HP2.out, ⟨HS3.out, HO3.out, HB3.out, HX3.out, HZ3.out, HA3.out, HQ.out⟩⟩
      go_simp
      have HD := Aside0.mk (below_a w1 (.cells #[.int .i64 0, .int .i64 0, .int .u32 0] 100))
      have HO2 := Aside0.mk (only_trans HO1.out (of_below B HD.out))
      have HS2 := Aside0.mk (HS1.out.below HD.out)
      have HB2 := HB1
      have HX2 := Aside0.mk (HX1.out.below HD.out)
      have HZ2 := Aside0.mk (HZ1.out.below HD.out)
      have HA2 := Aside0.mk (show ZBox (w1.alloc (.cells #[.int .i64 0, .int .i64 0, .int .u32 0] 100)) w1.heap.size #[.int .i64 0, .int .i64 0, .int .u32 0] 100 from heap_alloc_new w1 _)
      have HQ := Aside0.mk (show w.heap.size + 2 ≤ w1.heap.size by have := blk_lt HZ1.out; omega)
      clear HD
      refine hK.out _ _ HX2.out (fun _ => ?_)
      clear hK K
      generalize w1.heap.size = p at *
      generalize w1.alloc (.cells #[.int .i64 0, .int .i64 0, .int .u32 0] 100) = w2 at *
      refine one_ (i := 3) (N := some 7) #[true, true, true, true, false, true, false] rfl rfl (by kernel_rfl) (by decide) (fun K hK => ?_)
      refine goes2_ Try.func35 (by kernel_rfl) rfl #[.agg #[.pointer (some ⟨B, 0, none⟩)]] (by rfl) rfl rfl (by first | rfl | (simp only [List.map_toArray, List.map_cons, List.map_nil]; rfl) | simp) ?_
      refine (byte_calls B base r1 w2 HS2.out HB2.out).mono ?_
      rintro e w3 hg
      rcases hp : pGet 1 r1 with c | ⟨x2, r2⟩
      · obtain ⟨O, rfl⟩ := hg.no hp
        exact .inr ⟨_, rfl, rfl, Got.mk_no (by unfold pAct; rw [pBind_ok HP1.out]; exact pBind_no hp) (only_trans HO2.out O) rfl⟩
      obtain ⟨O, v, rfl, hV, S1, b1⟩ := hg.yes hp
      cases hV
      have HP2 := Aside0.mk hp
      have HO3 := Aside0.mk (only_trans HO2.out O)
      have HS3 := Aside0.mk S1
      have HB3 := Aside0.mk b1
      have HX3 := Aside0.mk (HX2.out.only O (by have := HLT.out; omega))
      have HZ3 := Aside0.mk (HZ2.out.only O (by have := HLT.out; omega))
      have HA3 := Aside0.mk (HA2.out.only O (by have := HLT.out; have := HQ.out; omega))
      have hz2 := (pGet_bd hp HB2.out).1
      have hy2 : x2 ≤ 255 := by have := (pGet_bd hp HB2.out).2.1; omega
      clear hg hp O S1 b1
      refine .inl ⟨_, rfl, ?_⟩
      refine hK.out _ _ HX3.out (fun _ => ?_)
      clear hK K
      refine norm_ (a' := ?_) ?_ ?_
      rotate_left
      · show Act.put _ (some 7) _ = _
        simp only [Act.put, List.setIfInBounds_toArray, List.set_cons_zero, List.set_cons_succ, i64_w, i32_w]
        rfl
      refine pure_ (i := 4) (N := some 8) (v := ?_) (a' := ?_) #[true, true, true, true, true, true, false] rfl rfl (by kernel_rfl) (fun _ _ _ h => h) (Or.inl ⟨by rfl, ?_⟩) ?_ ?_
      rotate_left
      · intro w_
        go_simp
        with_reducible rfl
      rotate_left
      · simp only [Act.put, List.setIfInBounds_toArray, List.set_cons_zero, List.set_cons_succ, i64_w, i32_w]
        rfl
      exact hJ (p, x1, x2, r2) w3 ⟨_, HP1.out, HP2.out, ⟨HS3.out, HO3.out, HB3.out, HX3.out, HZ3.out, HA3.out, HQ.out⟩⟩
    go_simp
    have HD := Aside0.mk (below_a wv (.cells #[.int .i64 0, .int .i64 0, .int .u32 0] 100))
    have HO1 := Aside0.mk (only_trans HO0.out (of_below B HD.out))
    have HS1 := Aside0.mk (HS0.out.below HD.out)
    have HB1 := HB0
    have HX1 := Aside0.mk (HX0.out.below HD.out)
    have HZ1 := Aside0.mk (HZ0.out.below HD.out)
    have HA1 := Aside0.mk (show ZBox (wv.alloc (.cells #[.int .i64 0, .int .i64 0, .int .u32 0] 100)) wv.heap.size #[.int .i64 0, .int .i64 0, .int .u32 0] 100 from heap_alloc_new wv _)
    have HQ := Aside0.mk (show w.heap.size + 2 ≤ wv.heap.size by have := blk_lt HZ0.out; omega)
    clear HD
    refine hK.out _ _ HX1.out (fun _ => ?_)
    clear hK K
    generalize wv.heap.size = p at *
    generalize wv.alloc (.cells #[.int .i64 0, .int .i64 0, .int .u32 0] 100) = w1 at *
    refine one_ (i := 1) (N := some 5) #[true, true, true, false, false, true, false] rfl rfl (by kernel_rfl) (by decide) (fun K hK => ?_)
    refine goes2_ Try.func35 (by kernel_rfl) rfl #[.agg #[.pointer (some ⟨B, 0, none⟩)]] (by rfl) rfl rfl (by first | rfl | (simp only [List.map_toArray, List.map_cons, List.map_nil]; rfl) | simp) ?_
    refine (byte_calls B base bs w1 HS1.out HB1.out).mono ?_
    rintro e w2 hg
    rcases hp : pGet 1 bs with c | ⟨x1, r1⟩
    · obtain ⟨O, rfl⟩ := hg.no hp
      exact .inr ⟨_, rfl, rfl, Got.mk_no (by unfold pAct; exact pBind_no hp) (only_trans HO1.out O) rfl⟩
    obtain ⟨O, v, rfl, hV, S1, b1⟩ := hg.yes hp
    cases hV
    have HP1 := Aside0.mk hp
    have HO2 := Aside0.mk (only_trans HO1.out O)
    have HS2 := Aside0.mk S1
    have HB2 := Aside0.mk b1
    have HX2 := Aside0.mk (HX1.out.only O (by have := HLT.out; omega))
    have HZ2 := Aside0.mk (HZ1.out.only O (by have := HLT.out; omega))
    have HA2 := Aside0.mk (HA1.out.only O (by have := HLT.out; have := HQ.out; omega))
    have hz1 := (pGet_bd hp HB1.out).1
    have hy1 : x1 ≤ 255 := by have := (pGet_bd hp HB1.out).2.1; omega
    clear hg hp O S1 b1
    refine .inl ⟨_, rfl, ?_⟩
    refine hK.out _ _ HX2.out (fun _ => ?_)
    clear hK K
    refine norm_ (a' := ?_) ?_ ?_
    rotate_left
    · show Act.put _ (some 5) _ = _
      simp only [Act.put, List.setIfInBounds_toArray, List.set_cons_zero, List.set_cons_succ, i64_w, i32_w]
      rfl
    refine one_ (i := 3) (N := some 7) #[true, true, true, true, false, true, false] rfl rfl (by kernel_rfl) (by decide) (fun K hK => ?_)
    refine goes2_ Try.func35 (by kernel_rfl) rfl #[.agg #[.pointer (some ⟨B, 0, none⟩)]] (by rfl) rfl rfl (by first | rfl | (simp only [List.map_toArray, List.map_cons, List.map_nil]; rfl) | simp) ?_
    refine (byte_calls B base r1 w2 HS2.out HB2.out).mono ?_
    rintro e w3 hg
    rcases hp : pGet 1 r1 with c | ⟨x2, r2⟩
    · obtain ⟨O, rfl⟩ := hg.no hp
      exact .inr ⟨_, rfl, rfl, Got.mk_no (by unfold pAct; rw [pBind_ok HP1.out]; exact pBind_no hp) (only_trans HO2.out O) rfl⟩
    obtain ⟨O, v, rfl, hV, S1, b1⟩ := hg.yes hp
    cases hV
    have HP2 := Aside0.mk hp
    have HO3 := Aside0.mk (only_trans HO2.out O)
    have HS3 := Aside0.mk S1
    have HB3 := Aside0.mk b1
    have HX3 := Aside0.mk (HX2.out.only O (by have := HLT.out; omega))
    have HZ3 := Aside0.mk (HZ2.out.only O (by have := HLT.out; omega))
    have HA3 := Aside0.mk (HA2.out.only O (by have := HLT.out; have := HQ.out; omega))
    have hz2 := (pGet_bd hp HB2.out).1
    have hy2 : x2 ≤ 255 := by have := (pGet_bd hp HB2.out).2.1; omega
    clear hg hp O S1 b1
    refine .inl ⟨_, rfl, ?_⟩
    refine hK.out _ _ HX3.out (fun _ => ?_)
    clear hK K
    refine norm_ (a' := ?_) ?_ ?_
    rotate_left
    · show Act.put _ (some 7) _ = _
      simp only [Act.put, List.setIfInBounds_toArray, List.set_cons_zero, List.set_cons_succ, i64_w, i32_w]
      rfl
    refine pure_ (i := 4) (N := some 8) (v := ?_) (a' := ?_) #[true, true, true, true, true, true, false] rfl rfl (by kernel_rfl) (fun _ _ _ h => h) (Or.inl ⟨by rfl, ?_⟩) ?_ ?_
    rotate_left
    · intro w_
      go_simp
      with_reducible rfl
    rotate_left
    · simp only [Act.put, List.setIfInBounds_toArray, List.set_cons_zero, List.set_cons_succ, i64_w, i32_w]
      rfl
    exact hJ (p, x1, x2, r2) w3 ⟨_, HP1.out, HP2.out, ⟨HS3.out, HO3.out, HB3.out, HX3.out, HZ3.out, HA3.out, HQ.out⟩⟩
end Go.Proofs.Ytbgcemijihpakaa.XA
