/- image's reader: an alarm's row. -/
import Derived.Test.YtbgcemijihpakaaG27
namespace Go.Proofs.Ytbgcemijihpakaa.XA
set_option linter.unusedVariables false
set_option linter.unusedSimpArgs false
open Go.RowKit Go.WideMaps Go.Maps Go.Proofs.YtbgcemijihpakaaW.PrintWords Go.Proofs.YtbgcemijihpakaaW.PrintLast Go.Proofs.YtbgcemijihpakaaW.PrintMore
def is102 : World → S102 → Value → Prop := fun _ x v => v = .agg #[.int .i64 x.f0, .int .i64 x.f1.f0, .int .i64 x.f1.f1, .int .u32 x.f1.f2, .int .u32 x.f2, .int .u32 x.f3, .int .u32 x.f4]
def pAlm : Rd S102 := pBind (pGet 1) fun a => pBind pAct fun b => pBind (pGet 1) fun c => pBind (pGet 4) fun d => pBind (pGet 4) fun e => pRet ⟨a, b, c, d, e⟩
/-- a reader's box g, a result's box q, a row under way p -/
structure JSg (w w' : World) (base B g q p : Nat) (z0 z : Array Value) (t0 t : TypeId) (r : List Int) : Prop where
  st : RdSt w' base B r
  only : RdOnly w w' B
  bd : ∀ y ∈ r, 0 ≤ y ∧ y ≤ 255
  rb : RBox w' g B
  zb : ZBox w' q z0 t0
  pb : ZBox w' p z t
  hg : g < q
  hq : w.heap.size ≤ q
  hp : q < p
section
variable {w w' w2 : World} {base B g q p : Nat} {z0 z : Array Value} {t0 t : TypeId} {r r2 : List Int}
theorem JSg.row (h : JSg w w' base B g q p z0 z t0 t r) (cs : Array Value) (h1 : t ≠ 154) (h2 : t ≠ 5) : JSg w (w'.setRow p cs) base B g q p z0 cs t0 t r := by
  have := h.hg
  have := h.hq
  have := h.hp
  exact ⟨h.st.grown (grown_row w' p cs) (fun k hk => by injection hk with hk; subst hk; exact ⟨t, _, h.pb, h1, h2⟩), only_grown h.only (grown_row w' p cs) (fun k hk => by injection hk with hk; omega), h.bd,
   h.rb.grown (grown_row w' p cs) (fun he => by injection he with he; omega), (setRow_other w' p q cs (by omega)).trans h.zb, ZBox.row h.pb cs, h.hg, h.hq, h.hp⟩
theorem JSg.cell (h : JSg w w' base B g q p z0 z t0 t r) (i : Nat) (v : Value) (h1 : t ≠ 154) (h2 : t ≠ 5) : JSg w (w'.setCell ⟨p, i, none⟩ v) base B g q p z0 (z.setIfInBounds i v) t0 t r := by
  have := h.row (z.setIfInBounds i v) h1 h2
  rw [← setCell_eq_setRow w' p i z t (0, 0) v h.pb] at this
  exact this
theorem JSg.go (h : JSg w w' base B g q p z0 z t0 t r) (O : RdOnly w' w2 B) (S : RdSt w2 base B r2) (b : ∀ y ∈ r2, 0 ≤ y ∧ y ≤ 255) (hB : B < w.heap.size) : JSg w w2 base B g q p z0 z t0 t r2 := by
  have := h.hq
  have := h.hp
  exact ⟨S, only_trans h.only O, b, h.rb.only O (rbox_ne h.rb h.st), h.zb.only O (by omega), h.pb.only O (by omega), h.hg, h.hq, h.hp⟩
theorem JSg.fin (h : JSg w w' base B g q p z0 z t0 t r) (cs : Array Value) (h1 : t0 ≠ 154) (h2 : t0 ≠ 5) : RdSt (w'.setRow q cs) base B r ∧ RdOnly w (w'.setRow q cs) B ∧ ZBox (w'.setRow q cs) q cs t0 := by
  have := h.hq
  exact ⟨h.st.grown (grown_row w' _ cs) (fun k hk => by injection hk with hk; subst hk; exact ⟨t0, _, h.zb, h1, h2⟩), only_grown h.only (grown_row w' _ cs) (fun k hk => by injection hk with hk; omega), ZBox.row h.zb cs⟩
end
set_option maxRecDepth 1000000 in
set_option maxHeartbeats 4000000 in
theorem alm_calls (B base g : Nat) (bs : List Int) (w : World) (h : RdSt w base B bs) (hb : ∀ x ∈ bs, 0 ≤ x ∧ x ≤ 255) (hx : RBox w g B) :
    Calls Try.prog 46 #[.pointer (some ⟨g, 0, none⟩)] w fun e w' => Got (pAlm bs) is102 base B w e w' := by
  have HNE := Aside0.mk (rbox_ne hx h)
  have HG := Aside0.mk (blk_lt hx)
  have HLT := Aside0.mk (rd_lt h)
  have HBY := Aside0.mk hb
  have HB := Aside0.mk (below_a w (.cells #[.int .i64 0, .int .i64 0, .int .i64 0, .int .u32 0, .int .u32 0, .int .u32 0, .int .u32 0] 102))
  have HS := Aside0.mk (h.below HB.out)
  have HX := Aside0.mk (hx.below HB.out)
  have HZ := Aside0.mk (show ZBox (w.alloc (.cells #[.int .i64 0, .int .i64 0, .int .i64 0, .int .u32 0, .int .u32 0, .int .u32 0, .int .u32 0] 102)) w.heap.size #[.int .i64 0, .int .i64 0, .int .i64 0, .int .u32 0, .int .u32 0, .int .u32 0, .int .u32 0] 102 from heap_alloc_new w _)
  clear h hb hx
  go_enter Try.func46, Try.ntmps46
  go_upto_region 1 with fail
  have HW := Aside0.mk (of_below B HB.out)
  generalize w.alloc (.cells #[.int .i64 0, .int .i64 0, .int .i64 0, .int .u32 0, .int .u32 0, .int .u32 0, .int .u32 0] 102) = wa at *
  refine start_ (n := 10) (S := fun w_ => RBox w_ g B) (ds := [9]) #[false, false, false, false, false, false, false, false, false, false] (by kernel_rfl) rfl rfl (HX.out.below (drew_below wa)) (fun hHeld => ?_)
  have HHX := Aside0.mk hHeld
  clear hHeld
  have HDB := Aside0.mk (drew_below wa)
  generalize wa.drew = wv at *
  refine take_ (i := 0) (N := some 3) (v := ?_) (a' := ?_) #[true, false, false, false, false, false, false, false, false, false] rfl rfl (by kernel_rfl) (fun _ _ _ h => h) (Or.inl ⟨by rfl, ?_⟩) HHX.out ?_ ?_
  rotate_left
  · rintro w_ s
    refine run78 s (.tmp 0) ?_ ?_ <;> rfl
  rotate_left
  · simp only [Act.put, List.setIfInBounds_toArray, List.set_cons_zero, List.set_cons_succ, i64_w, i32_w]
    rfl
  refine take_ (i := 2) (N := some 5) (v := ?_) (a' := ?_) #[true, false, true, false, false, false, false, false, false, false] rfl rfl (by kernel_rfl) (fun _ _ _ h => h) (Or.inl ⟨by rfl, ?_⟩) HHX.out ?_ ?_
  rotate_left
  · rintro w_ s
    refine run78 s (.tmp 0) ?_ ?_ <;> rfl
  rotate_left
  · simp only [Act.put, List.setIfInBounds_toArray, List.set_cons_zero, List.set_cons_succ, i64_w, i32_w]
    rfl
  refine take_ (i := 4) (N := some 7) (v := ?_) (a' := ?_) #[true, false, true, false, true, false, false, false, false, false] rfl rfl (by kernel_rfl) (fun _ _ _ h => h) (Or.inl ⟨by rfl, ?_⟩) HHX.out ?_ ?_
  rotate_left
  · rintro w_ s
    refine run78 s (.tmp 0) ?_ ?_ <;> rfl
  rotate_left
  · simp only [Act.put, List.setIfInBounds_toArray, List.set_cons_zero, List.set_cons_succ, i64_w, i32_w]
    rfl
  have HS0 := Aside0.mk (HS.out.below HDB.out)
  have HZ0 := Aside0.mk (HZ.out.below HDB.out)
  have HO0 := Aside0.mk (only_trans HW.out (of_below B HDB.out))
  have HB0 := HBY
  have HX0 := HHX
  refine join_ (fuel' := 1) #[true, true, true, true, true, true, true, true, true, false] (fun s : Nat × Int × S100 × Int × List Int => [(2, .pointer (some ⟨s.1, 0, none⟩)), (4, .int .i64 s.2.1), (6, .agg #[.int .i64 s.2.2.1.f0, .int .i64 s.2.2.1.f1, .int .u32 s.2.2.1.f2]), (8, .int .u64 s.2.2.2.1), (9, .int .u32 s.2.2.2.1), (10, .agg #[.int .i64 s.2.1, .int .i64 s.2.2.1.f0, .int .i64 s.2.2.1.f1, .int .u32 s.2.2.1.f2, .int .u32 s.2.2.2.1, .int .u32 0, .int .u32 0])])
    (fun s w' => ∃ r1 r2, pGet 1 bs = .ok (s.2.1, r1) ∧ pAct r1 = .ok (s.2.2.1, r2) ∧ pGet 1 r2 = .ok (s.2.2.2.1, s.2.2.2.2) ∧ JSg w w' base B g w.heap.size s.1 #[.int .i64 0, .int .i64 0, .int .i64 0, .int .u32 0, .int .u32 0, .int .u32 0, .int .u32 0] #[.int .i64 0, .int .i64 0, .int .i64 0, .int .u32 0, .int .u32 0, .int .u32 0, .int .u32 0] 102 102 s.2.2.2.2) ?hcont (fun hJ => ?htree)
  case hcont =>
    rintro ⟨p, x1, x2, x3, r3⟩ w5 ⟨r1, r2, hp1, hp2, hp3, HJ⟩
    have HJ := Aside0.mk HJ
    have HP1 := Aside0.mk hp1
    have HP2 := Aside0.mk hp2
    have HP3 := Aside0.mk hp3
    clear hp1 hp2 hp3
    refine norm_ (a' := ?_) ?_ ?_
    rotate_left
    · simp only [putAll, Act.put, List.setIfInBounds_toArray, List.set_cons_zero, List.set_cons_succ]
      rfl
    refine last_ (i := 9) (N := none) #[true, true, true, true, true, true, true, true, true, true] rfl rfl (by kernel_rfl) (by decide) (fun K hK => ?_)
    rw [if_pos (by rfl)]
    refine wp_store_row 102 (.tmp 2) (.tmp 10) rfl p #[.int .i64 x1, .int .i64 x2.f0, .int .i64 x2.f1, .int .u32 x2.f2, .int .u32 x3, .int .u32 0, .int .u32 0] rfl rfl 102 _ HJ.out.pb (by kernel_rfl) rfl (by simp [Value.oneCell']) ?_
    refine hK.out _ _ ?_
    clear hK K
    have HJ2 := Aside0.mk (HJ.out.row #[.int .i64 x1, .int .i64 x2.f0, .int .i64 x2.f1, .int .u32 x2.f2, .int .u32 x3, .int .u32 0, .int .u32 0] (by decide) (by decide))
    clear HJ
    generalize w5.setRow p #[.int .i64 x1, .int .i64 x2.f0, .int .i64 x2.f1, .int .u32 x2.f2, .int .u32 x3, .int .u32 0, .int .u32 0] = w6 at *
    refine done_ (by kernel_rfl) ?_
    go_wp2_with ((with_reducible refine gate_dst (N := 11) rfl ?_); refine load78 HJ2.out.rb rfl (.tmp 0) rfl rfl ?_)
    refine (get_calls B base 4 r3 w6 HJ2.out.st HJ2.out.bd (by omega)).mono ?_
    rintro e w7 hg
    rcases hp : pGet 4 r3 with c | ⟨x4, r4⟩
    · obtain ⟨O, rfl⟩ := hg.no hp
      exact ⟨rfl, Got.mk_no (by unfold pAlm; rw [pBind_ok HP1.out]; rw [pBind_ok HP2.out]; rw [pBind_ok HP3.out]; exact pBind_no hp) (only_trans HJ2.out.only O) rfl⟩
    obtain ⟨O, v, rfl, hV, S1, b1⟩ := hg.yes hp
    cases hV
    have HP4 := Aside0.mk hp
    have HJ4a := Aside0.mk (HJ2.out.go O S1 b1 HLT.out)
    have hz4 := (pGet_bd hp HJ2.out.bd).1
    have hy4 : x4 ≤ 4294967295 := by have := (pGet_bd hp HJ2.out.bd).2.1; omega
    have hq4 : IntKind.u32.wrap x4 = x4 := u32_in hz4 (by omega)
    have c4 := HJ4a.out.pb.at 5 _ rfl
    have f4 := HJ4a.out.pb.fr 5
    have HJ4 := Aside0.mk (show JSg w (w7.setCell ⟨p, 5, none⟩ (.int .u32 x4)) base B g w.heap.size p #[.int .i64 0, .int .i64 0, .int .i64 0, .int .u32 0, .int .u32 0, .int .u32 0, .int .u32 0] #[.int .i64 x1, .int .i64 x2.f0, .int .i64 x2.f1, .int .u32 x2.f2, .int .u32 x3, .int .u32 x4, .int .u32 0] 102 102 r4 from HJ4a.out.cell 5 (.int .u32 x4) (by decide) (by decide))
    clear hg hp O S1 b1
    go_upto_region 3 with fail
    generalize w7.setCell ⟨p, 5, none⟩ (.int .u32 x4) = w8 at *
    go_wp2_with ((with_reducible refine gate_dst (N := 15) rfl ?_); refine load78 HJ4.out.rb rfl (.tmp 0) rfl rfl ?_)
    refine (get_calls B base 4 r4 w8 HJ4.out.st HJ4.out.bd (by omega)).mono ?_
    rintro e w9 hg
    rcases hp : pGet 4 r4 with c | ⟨x5, r5⟩
    · obtain ⟨O, rfl⟩ := hg.no hp
      exact ⟨rfl, Got.mk_no (by unfold pAlm; rw [pBind_ok HP1.out]; rw [pBind_ok HP2.out]; rw [pBind_ok HP3.out]; rw [pBind_ok HP4.out]; exact pBind_no hp) (only_trans HJ4.out.only O) rfl⟩
    obtain ⟨O, v, rfl, hV, S1, b1⟩ := hg.yes hp
    cases hV
    have HP5 := Aside0.mk hp
    have HJ5a := Aside0.mk (HJ4.out.go O S1 b1 HLT.out)
    have hz5 := (pGet_bd hp HJ4.out.bd).1
    have hy5 : x5 ≤ 4294967295 := by have := (pGet_bd hp HJ4.out.bd).2.1; omega
    have hq5 : IntKind.u32.wrap x5 = x5 := u32_in hz5 (by omega)
    have c5 := HJ5a.out.pb.at 6 _ rfl
    have f5 := HJ5a.out.pb.fr 6
    have HJ5 := Aside0.mk (show JSg w (w9.setCell ⟨p, 6, none⟩ (.int .u32 x5)) base B g w.heap.size p #[.int .i64 0, .int .i64 0, .int .i64 0, .int .u32 0, .int .u32 0, .int .u32 0, .int .u32 0] #[.int .i64 x1, .int .i64 x2.f0, .int .i64 x2.f1, .int .u32 x2.f2, .int .u32 x3, .int .u32 x4, .int .u32 x5] 102 102 r5 from HJ5a.out.cell 6 (.int .u32 x5) (by decide) (by decide))
    clear hg hp O S1 b1
    have HPe := Aside0.mk (show pAlm bs = .ok (⟨x1, x2, x3, x4, x5⟩, r5) by unfold pAlm; rw [pBind_ok HP1.out]; rw [pBind_ok HP2.out]; rw [pBind_ok HP3.out]; rw [pBind_ok HP4.out]; rw [pBind_ok HP5.out]; rfl)
    have HA := Aside0.mk (show At102 (w9.setCell ⟨p, 6, none⟩ (.int .u32 x5)) ⟨p, 0, none⟩ ⟨x1, x2, x3, x4, x5⟩ from ⟨cells_box2 HJ5.out.pb⟩)
    have HF := Aside0.mk (HJ5.out.fin #[.int .i64 x1, .int .i64 x2.f0, .int .i64 x2.f1, .int .u32 x2.f2, .int .u32 x3, .int .u32 x4, .int .u32 x5] (by decide) (by decide))
    go_wp2_with (first | ((with_reducible refine gate_dst (N := 19) rfl ?_); refine load102 HA.out rfl (.tmp 2) rfl rfl ?_) | (refine wpList_store_row rfl 102 (.tmp 1) (.tmp 19) rfl w.heap.size #[.int .i64 x1, .int .i64 x2.f0, .int .i64 x2.f1, .int .u32 x2.f2, .int .u32 x3, .int .u32 x4, .int .u32 x5] rfl rfl 102 _ HJ5.out.zb (by kernel_rfl) rfl (by simp [Value.oneCell']) ?_))
    refine bodyPost_ret (results_cell_row rfl _ _ w.heap.size 102 #[.int .i64 x1, .int .i64 x2.f0, .int .i64 x2.f1, .int .u32 x2.f2, .int .u32 x3, .int .u32 x4, .int .u32 x5] (0, 0) _ rfl HF.out.2.2 Try.underlying102 rfl (by kernel_rfl)) rfl ?_
    exact Got.mk_yes HPe.out HF.out.2.1 _ rfl rfl HF.out.1 HJ5.out.bd
  case htree =>
    refine two_ (i := 1) (j := 8) (Ni := some 4) (Nj := some 2) #[true, true, true, false, true, false, false, false, false, false] #[true, false, true, false, true, false, false, false, true, false] rfl rfl rfl rfl (by kernel_rfl) (by decide) (by decide) (fun K hK => ?_) (fun K hK => ?_)
    focus
      refine goes2_ Try.func35 (by kernel_rfl) rfl #[.agg #[.pointer (some ⟨B, 0, none⟩)]] (by rfl) rfl rfl (by first | rfl | (simp only [List.map_toArray, List.map_cons, List.map_nil]; rfl) | simp) ?_
      refine (byte_calls B base bs wv HS0.out HB0.out).mono ?_
      rintro e w1 hg
      rcases hp : pGet 1 bs with c | ⟨x1, r1⟩
      · obtain ⟨O, rfl⟩ := hg.no hp
        exact .inr ⟨_, rfl, rfl, Got.mk_no (by unfold pAlm; exact pBind_no hp) (only_trans HO0.out O) rfl⟩
      obtain ⟨O, v, rfl, hV, S1, b1⟩ := hg.yes hp
      cases hV
      have HP1 := Aside0.mk hp
      have HO1 := Aside0.mk (only_trans HO0.out O)
      have HS1 := Aside0.mk S1
      have HB1 := Aside0.mk b1
      have HX1 := Aside0.mk (HX0.out.only O HNE.out)
      have HZ1 := Aside0.mk (HZ0.out.only O (by have := HLT.out; omega))
      have hz1 := (pGet_bd hp HB0.out).1
      have hy1 : x1 ≤ 255 := by have := (pGet_bd hp HB0.out).2.1; omega
      clear hg hp O S1 b1
      refine .inl ⟨_, rfl, ?_⟩
      refine hK.out _ _ HX1.out (fun _ => ?_)
      clear hK K
      refine norm_ (a' := ?_) ?_ ?_
      rotate_left
      · show Act.put _ (some 4) _ = _
        simp only [Act.put, List.setIfInBounds_toArray, List.set_cons_zero, List.set_cons_succ, i64_w, i32_w]
        rfl
      refine two_ (i := 3) (j := 8) (Ni := some 6) (Nj := some 2) #[true, true, true, true, true, false, false, false, false, false] #[true, true, true, false, true, false, false, false, true, false] rfl rfl rfl rfl (by kernel_rfl) (by decide) (by decide) (fun K hK => ?_) (fun K hK => ?_)
      focus
        refine goes2_ Try.func47 (by kernel_rfl) rfl #[.agg #[.pointer (some ⟨B, 0, none⟩)]] (by rfl) rfl rfl (by first | rfl | (simp only [List.map_toArray, List.map_cons, List.map_nil]; rfl) | simp) ?_
        refine (ract_calls B base r1 w1 HS1.out HB1.out).mono ?_
        rintro e w2 hg
        rcases hp : pAct r1 with c | ⟨x2, r2⟩
        · obtain ⟨O, rfl⟩ := hg.no hp
          exact .inr ⟨_, rfl, rfl, Got.mk_no (by unfold pAlm; rw [pBind_ok HP1.out]; exact pBind_no hp) (only_trans HO1.out O) rfl⟩
        obtain ⟨O, v, rfl, hV, S1, b1⟩ := hg.yes hp
        cases hV
        have HP2 := Aside0.mk hp
        have HO2 := Aside0.mk (only_trans HO1.out O)
        have HS2 := Aside0.mk S1
        have HB2 := Aside0.mk b1
        have HX2 := Aside0.mk (HX1.out.only O HNE.out)
        have HZ2 := Aside0.mk (HZ1.out.only O (by have := HLT.out; omega))
        clear hg hp O S1 b1
        refine .inl ⟨_, rfl, ?_⟩
        refine hK.out _ _ HX2.out (fun _ => ?_)
        clear hK K
        refine norm_ (a' := ?_) ?_ ?_
        rotate_left
        · show Act.put _ (some 6) _ = _
          simp only [Act.put, List.setIfInBounds_toArray, List.set_cons_zero, List.set_cons_succ, i64_w, i32_w]
          rfl
        refine two_ (i := 5) (j := 8) (Ni := some 8) (Nj := some 2) #[true, true, true, true, true, true, false, false, false, false] #[true, true, true, true, true, false, false, false, true, false] rfl rfl rfl rfl (by kernel_rfl) (by decide) (by decide) (fun K hK => ?_) (fun K hK => ?_)
        focus
          refine goes2_ Try.func31 (by kernel_rfl) rfl #[.agg #[.pointer (some ⟨B, 0, none⟩)], .int .i64 1] (by rfl) rfl rfl (by first | rfl | (simp only [List.map_toArray, List.map_cons, List.map_nil]; rfl) | simp) ?_
          refine (get_calls B base 1 r2 w2 HS2.out HB2.out (by omega)).mono ?_
          rintro e w3 hg
          rcases hp : pGet 1 r2 with c | ⟨x3, r3⟩
          · obtain ⟨O, rfl⟩ := hg.no hp
            exact .inr ⟨_, rfl, rfl, Got.mk_no (by unfold pAlm; rw [pBind_ok HP1.out]; rw [pBind_ok HP2.out]; exact pBind_no hp) (only_trans HO2.out O) rfl⟩
          obtain ⟨O, v, rfl, hV, S1, b1⟩ := hg.yes hp
          cases hV
          have HP3 := Aside0.mk hp
          have HO3 := Aside0.mk (only_trans HO2.out O)
          have HS3 := Aside0.mk S1
          have HB3 := Aside0.mk b1
          have HX3 := Aside0.mk (HX2.out.only O HNE.out)
          have HZ3 := Aside0.mk (HZ2.out.only O (by have := HLT.out; omega))
          have hz3 := (pGet_bd hp HB2.out).1
          have hy3 : x3 ≤ 255 := by have := (pGet_bd hp HB2.out).2.1; omega
          have hq3 : IntKind.u32.wrap x3 = x3 := u32_in hz3 (by omega)
          clear hg hp O S1 b1
          refine .inl ⟨_, rfl, ?_⟩
          refine hK.out _ _ HX3.out (fun _ => ?_)
          clear hK K
          refine norm_ (a' := ?_) ?_ ?_
          rotate_left
          · show Act.put _ (some 8) _ = _
            simp only [Act.put, List.setIfInBounds_toArray, List.set_cons_zero, List.set_cons_succ, i64_w, i32_w]
            rfl
          refine pure_ (i := 6) (N := some 9) (v := ?_) (a' := ?_) #[true, true, true, true, true, true, true, false, false, false] rfl rfl (by kernel_rfl) (fun _ _ _ h => h) (Or.inl ⟨by rfl, ?_⟩) ?_ ?_
          rotate_left
          · intro w_
            go_simp
            with_reducible rfl
          rotate_left
          · simp only [Act.put, List.setIfInBounds_toArray, List.set_cons_zero, List.set_cons_succ, i64_w, i32_w, hq3]
            rfl
          refine pure_ (i := 7) (N := some 10) (v := ?_) (a' := ?_) #[true, true, true, true, true, true, true, true, false, false] rfl rfl (by kernel_rfl) (fun _ _ _ h => h) (Or.inl ⟨by rfl, ?_⟩) ?_ ?_
          rotate_left
          · intro w_
            go_simp
            with_reducible rfl
          rotate_left
          · simp only [Act.put, List.setIfInBounds_toArray, List.set_cons_zero, List.set_cons_succ, i64_w, i32_w, hq3]
            rfl
          refine one_ (i := 8) (N := some 2) #[true, true, true, true, true, true, true, true, true, false] rfl rfl (by kernel_rfl) (by decide) (fun K hK => ?_)
          go_simp
          have HD := Aside0.mk (below_a w3 (.cells #[.int .i64 0, .int .i64 0, .int .i64 0, .int .u32 0, .int .u32 0, .int .u32 0, .int .u32 0] 102))
          have HO4 := Aside0.mk (only_trans HO3.out (of_below B HD.out))
          have HS4 := Aside0.mk (HS3.out.below HD.out)
          have HB4 := HB3
          have HX4 := Aside0.mk (HX3.out.below HD.out)
          have HZ4 := Aside0.mk (HZ3.out.below HD.out)
          have HA4 := Aside0.mk (show ZBox (w3.alloc (.cells #[.int .i64 0, .int .i64 0, .int .i64 0, .int .u32 0, .int .u32 0, .int .u32 0, .int .u32 0] 102)) w3.heap.size #[.int .i64 0, .int .i64 0, .int .i64 0, .int .u32 0, .int .u32 0, .int .u32 0, .int .u32 0] 102 from heap_alloc_new w3 _)
          have HQ := Aside0.mk (show w.heap.size < w3.heap.size by have := blk_lt HZ3.out; omega)
          clear HD
          refine hK.out _ _ HX4.out (fun _ => ?_)
          clear hK K
          generalize w3.heap.size = p at *
          generalize w3.alloc (.cells #[.int .i64 0, .int .i64 0, .int .i64 0, .int .u32 0, .int .u32 0, .int .u32 0, .int .u32 0] 102) = w4 at *
          exact hJ (p, x1, x2, x3, r3) w4 ⟨_, _, HP1.out, HP2.out, HP3.out, ⟨HS4.out, HO4.out, HB4.out, HX4.out, HZ4.out, HA4.out, HG.out, Nat.le_refl _, HQ.out⟩⟩
        go_simp
        have HD := Aside0.mk (below_a w2 (.cells #[.int .i64 0, .int .i64 0, .int .i64 0, .int .u32 0, .int .u32 0, .int .u32 0, .int .u32 0] 102))
        have HO3 := Aside0.mk (only_trans HO2.out (of_below B HD.out))
        have HS3 := Aside0.mk (HS2.out.below HD.out)
        have HB3 := HB2
        have HX3 := Aside0.mk (HX2.out.below HD.out)
        have HZ3 := Aside0.mk (HZ2.out.below HD.out)
        have HA3 := Aside0.mk (show ZBox (w2.alloc (.cells #[.int .i64 0, .int .i64 0, .int .i64 0, .int .u32 0, .int .u32 0, .int .u32 0, .int .u32 0] 102)) w2.heap.size #[.int .i64 0, .int .i64 0, .int .i64 0, .int .u32 0, .int .u32 0, .int .u32 0, .int .u32 0] 102 from heap_alloc_new w2 _)
        have HQ := Aside0.mk (show w.heap.size < w2.heap.size by have := blk_lt HZ2.out; omega)
        clear HD
        refine hK.out _ _ HX3.out (fun _ => ?_)
        clear hK K
        generalize w2.heap.size = p at *
        generalize w2.alloc (.cells #[.int .i64 0, .int .i64 0, .int .i64 0, .int .u32 0, .int .u32 0, .int .u32 0, .int .u32 0] 102) = w3 at *
        refine one_ (i := 5) (N := some 8) #[true, true, true, true, true, true, false, false, true, false] rfl rfl (by kernel_rfl) (by decide) (fun K hK => ?_)
        refine goes2_ Try.func31 (by kernel_rfl) rfl #[.agg #[.pointer (some ⟨B, 0, none⟩)], .int .i64 1] (by rfl) rfl rfl (by first | rfl | (simp only [List.map_toArray, List.map_cons, List.map_nil]; rfl) | simp) ?_
        refine (get_calls B base 1 r2 w3 HS3.out HB3.out (by omega)).mono ?_
        rintro e w4 hg
        rcases hp : pGet 1 r2 with c | ⟨x3, r3⟩
        · obtain ⟨O, rfl⟩ := hg.no hp
          exact .inr ⟨_, rfl, rfl, Got.mk_no (by unfold pAlm; rw [pBind_ok HP1.out]; rw [pBind_ok HP2.out]; exact pBind_no hp) (only_trans HO3.out O) rfl⟩
        obtain ⟨O, v, rfl, hV, S1, b1⟩ := hg.yes hp
        cases hV
        have HP3 := Aside0.mk hp
        have HO4 := Aside0.mk (only_trans HO3.out O)
        have HS4 := Aside0.mk S1
        have HB4 := Aside0.mk b1
        have HX4 := Aside0.mk (HX3.out.only O HNE.out)
        have HZ4 := Aside0.mk (HZ3.out.only O (by have := HLT.out; omega))
        have HA4 := Aside0.mk (HA3.out.only O (by have := HLT.out; have := HQ.out; omega))
        have hz3 := (pGet_bd hp HB3.out).1
        have hy3 : x3 ≤ 255 := by have := (pGet_bd hp HB3.out).2.1; omega
        have hq3 : IntKind.u32.wrap x3 = x3 := u32_in hz3 (by omega)
        clear hg hp O S1 b1
        refine .inl ⟨_, rfl, ?_⟩
        refine hK.out _ _ HX4.out (fun _ => ?_)
        clear hK K
        refine norm_ (a' := ?_) ?_ ?_
        rotate_left
        · show Act.put _ (some 8) _ = _
          simp only [Act.put, List.setIfInBounds_toArray, List.set_cons_zero, List.set_cons_succ, i64_w, i32_w]
          rfl
        refine pure_ (i := 6) (N := some 9) (v := ?_) (a' := ?_) #[true, true, true, true, true, true, true, false, true, false] rfl rfl (by kernel_rfl) (fun _ _ _ h => h) (Or.inl ⟨by rfl, ?_⟩) ?_ ?_
        rotate_left
        · intro w_
          go_simp
          with_reducible rfl
        rotate_left
        · simp only [Act.put, List.setIfInBounds_toArray, List.set_cons_zero, List.set_cons_succ, i64_w, i32_w, hq3]
          rfl
        refine pure_ (i := 7) (N := some 10) (v := ?_) (a' := ?_) #[true, true, true, true, true, true, true, true, true, false] rfl rfl (by kernel_rfl) (fun _ _ _ h => h) (Or.inl ⟨by rfl, ?_⟩) ?_ ?_
        rotate_left
        · intro w_
          go_simp
          with_reducible rfl
        rotate_left
        · simp only [Act.put, List.setIfInBounds_toArray, List.set_cons_zero, List.set_cons_succ, i64_w, i32_w, hq3]
          rfl
        exact hJ (p, x1, x2, x3, r3) w4 ⟨_, _, HP1.out, HP2.out, HP3.out, ⟨HS4.out, HO4.out, HB4.out, HX4.out, HZ4.out, HA4.out, HG.out, Nat.le_refl _, HQ.out⟩⟩
      go_simp
      have HD := Aside0.mk (below_a w1 (.cells #[.int .i64 0, .int .i64 0, .int .i64 0, .int .u32 0, .int .u32 0, .int .u32 0, .int .u32 0] 102))
      have HO2 := Aside0.mk (only_trans HO1.out (of_below B HD.out))
      have HS2 := Aside0.mk (HS1.out.below HD.out)
      have HB2 := HB1
      have HX2 := Aside0.mk (HX1.out.below HD.out)
      have HZ2 := Aside0.mk (HZ1.out.below HD.out)
      have HA2 := Aside0.mk (show ZBox (w1.alloc (.cells #[.int .i64 0, .int .i64 0, .int .i64 0, .int .u32 0, .int .u32 0, .int .u32 0, .int .u32 0] 102)) w1.heap.size #[.int .i64 0, .int .i64 0, .int .i64 0, .int .u32 0, .int .u32 0, .int .u32 0, .int .u32 0] 102 from heap_alloc_new w1 _)
      have HQ := Aside0.mk (show w.heap.size < w1.heap.size by have := blk_lt HZ1.out; omega)
      clear HD
      refine hK.out _ _ HX2.out (fun _ => ?_)
      clear hK K
      generalize w1.heap.size = p at *
      generalize w1.alloc (.cells #[.int .i64 0, .int .i64 0, .int .i64 0, .int .u32 0, .int .u32 0, .int .u32 0, .int .u32 0] 102) = w2 at *
      refine one_ (i := 3) (N := some 6) #[true, true, true, true, true, false, false, false, true, false] rfl rfl (by kernel_rfl) (by decide) (fun K hK => ?_)
      refine goes2_ Try.func47 (by kernel_rfl) rfl #[.agg #[.pointer (some ⟨B, 0, none⟩)]] (by rfl) rfl rfl (by first | rfl | (simp only [List.map_toArray, List.map_cons, List.map_nil]; rfl) | simp) ?_
      refine (ract_calls B base r1 w2 HS2.out HB2.out).mono ?_
      rintro e w3 hg
      rcases hp : pAct r1 with c | ⟨x2, r2⟩
      · obtain ⟨O, rfl⟩ := hg.no hp
        exact .inr ⟨_, rfl, rfl, Got.mk_no (by unfold pAlm; rw [pBind_ok HP1.out]; exact pBind_no hp) (only_trans HO2.out O) rfl⟩
      obtain ⟨O, v, rfl, hV, S1, b1⟩ := hg.yes hp
      cases hV
      have HP2 := Aside0.mk hp
      have HO3 := Aside0.mk (only_trans HO2.out O)
      have HS3 := Aside0.mk S1
      have HB3 := Aside0.mk b1
      have HX3 := Aside0.mk (HX2.out.only O HNE.out)
      have HZ3 := Aside0.mk (HZ2.out.only O (by have := HLT.out; omega))
      have HA3 := Aside0.mk (HA2.out.only O (by have := HLT.out; have := HQ.out; omega))
      clear hg hp O S1 b1
      refine .inl ⟨_, rfl, ?_⟩
      refine hK.out _ _ HX3.out (fun _ => ?_)
      clear hK K
      refine norm_ (a' := ?_) ?_ ?_
      rotate_left
      · show Act.put _ (some 6) _ = _
        simp only [Act.put, List.setIfInBounds_toArray, List.set_cons_zero, List.set_cons_succ, i64_w, i32_w]
        rfl
      refine one_ (i := 5) (N := some 8) #[true, true, true, true, true, true, false, false, true, false] rfl rfl (by kernel_rfl) (by decide) (fun K hK => ?_)
      refine goes2_ Try.func31 (by kernel_rfl) rfl #[.agg #[.pointer (some ⟨B, 0, none⟩)], .int .i64 1] (by rfl) rfl rfl (by first | rfl | (simp only [List.map_toArray, List.map_cons, List.map_nil]; rfl) | simp) ?_
      refine (get_calls B base 1 r2 w3 HS3.out HB3.out (by omega)).mono ?_
      rintro e w4 hg
      rcases hp : pGet 1 r2 with c | ⟨x3, r3⟩
      · obtain ⟨O, rfl⟩ := hg.no hp
        exact .inr ⟨_, rfl, rfl, Got.mk_no (by unfold pAlm; rw [pBind_ok HP1.out]; rw [pBind_ok HP2.out]; exact pBind_no hp) (only_trans HO3.out O) rfl⟩
      obtain ⟨O, v, rfl, hV, S1, b1⟩ := hg.yes hp
      cases hV
      have HP3 := Aside0.mk hp
      have HO4 := Aside0.mk (only_trans HO3.out O)
      have HS4 := Aside0.mk S1
      have HB4 := Aside0.mk b1
      have HX4 := Aside0.mk (HX3.out.only O HNE.out)
      have HZ4 := Aside0.mk (HZ3.out.only O (by have := HLT.out; omega))
      have HA4 := Aside0.mk (HA3.out.only O (by have := HLT.out; have := HQ.out; omega))
      have hz3 := (pGet_bd hp HB3.out).1
      have hy3 : x3 ≤ 255 := by have := (pGet_bd hp HB3.out).2.1; omega
      have hq3 : IntKind.u32.wrap x3 = x3 := u32_in hz3 (by omega)
      clear hg hp O S1 b1
      refine .inl ⟨_, rfl, ?_⟩
      refine hK.out _ _ HX4.out (fun _ => ?_)
      clear hK K
      refine norm_ (a' := ?_) ?_ ?_
      rotate_left
      · show Act.put _ (some 8) _ = _
        simp only [Act.put, List.setIfInBounds_toArray, List.set_cons_zero, List.set_cons_succ, i64_w, i32_w]
        rfl
      refine pure_ (i := 6) (N := some 9) (v := ?_) (a' := ?_) #[true, true, true, true, true, true, true, false, true, false] rfl rfl (by kernel_rfl) (fun _ _ _ h => h) (Or.inl ⟨by rfl, ?_⟩) ?_ ?_
      rotate_left
      · intro w_
        go_simp
        with_reducible rfl
      rotate_left
      · simp only [Act.put, List.setIfInBounds_toArray, List.set_cons_zero, List.set_cons_succ, i64_w, i32_w, hq3]
        rfl
      refine pure_ (i := 7) (N := some 10) (v := ?_) (a' := ?_) #[true, true, true, true, true, true, true, true, true, false] rfl rfl (by kernel_rfl) (fun _ _ _ h => h) (Or.inl ⟨by rfl, ?_⟩) ?_ ?_
      rotate_left
      · intro w_
        go_simp
        with_reducible rfl
      rotate_left
      · simp only [Act.put, List.setIfInBounds_toArray, List.set_cons_zero, List.set_cons_succ, i64_w, i32_w, hq3]
        rfl
      exact hJ (p, x1, x2, x3, r3) w4 ⟨_, _, HP1.out, HP2.out, HP3.out, ⟨HS4.out, HO4.out, HB4.out, HX4.out, HZ4.out, HA4.out, HG.out, Nat.le_refl _, HQ.out⟩⟩
    go_simp
    have HD := Aside0.mk (below_a wv (.cells #[.int .i64 0, .int .i64 0, .int .i64 0, .int .u32 0, .int .u32 0, .int .u32 0, .int .u32 0] 102))
    have HO1 := Aside0.mk (only_trans HO0.out (of_below B HD.out))
    have HS1 := Aside0.mk (HS0.out.below HD.out)
    have HB1 := HB0
    have HX1 := Aside0.mk (HX0.out.below HD.out)
    have HZ1 := Aside0.mk (HZ0.out.below HD.out)
    have HA1 := Aside0.mk (show ZBox (wv.alloc (.cells #[.int .i64 0, .int .i64 0, .int .i64 0, .int .u32 0, .int .u32 0, .int .u32 0, .int .u32 0] 102)) wv.heap.size #[.int .i64 0, .int .i64 0, .int .i64 0, .int .u32 0, .int .u32 0, .int .u32 0, .int .u32 0] 102 from heap_alloc_new wv _)
    have HQ := Aside0.mk (show w.heap.size < wv.heap.size by have := blk_lt HZ0.out; omega)
    clear HD
    refine hK.out _ _ HX1.out (fun _ => ?_)
    clear hK K
    generalize wv.heap.size = p at *
    generalize wv.alloc (.cells #[.int .i64 0, .int .i64 0, .int .i64 0, .int .u32 0, .int .u32 0, .int .u32 0, .int .u32 0] 102) = w1 at *
    refine one_ (i := 1) (N := some 4) #[true, true, true, false, true, false, false, false, true, false] rfl rfl (by kernel_rfl) (by decide) (fun K hK => ?_)
    refine goes2_ Try.func35 (by kernel_rfl) rfl #[.agg #[.pointer (some ⟨B, 0, none⟩)]] (by rfl) rfl rfl (by first | rfl | (simp only [List.map_toArray, List.map_cons, List.map_nil]; rfl) | simp) ?_
    refine (byte_calls B base bs w1 HS1.out HB1.out).mono ?_
    rintro e w2 hg
    rcases hp : pGet 1 bs with c | ⟨x1, r1⟩
    · obtain ⟨O, rfl⟩ := hg.no hp
      exact .inr ⟨_, rfl, rfl, Got.mk_no (by unfold pAlm; exact pBind_no hp) (only_trans HO1.out O) rfl⟩
    obtain ⟨O, v, rfl, hV, S1, b1⟩ := hg.yes hp
    cases hV
    have HP1 := Aside0.mk hp
    have HO2 := Aside0.mk (only_trans HO1.out O)
    have HS2 := Aside0.mk S1
    have HB2 := Aside0.mk b1
    have HX2 := Aside0.mk (HX1.out.only O HNE.out)
    have HZ2 := Aside0.mk (HZ1.out.only O (by have := HLT.out; omega))
    have HA2 := Aside0.mk (HA1.out.only O (by have := HLT.out; have := HQ.out; omega))
    have hz1 := (pGet_bd hp HB1.out).1
    have hy1 : x1 ≤ 255 := by have := (pGet_bd hp HB1.out).2.1; omega
    clear hg hp O S1 b1
    refine .inl ⟨_, rfl, ?_⟩
    refine hK.out _ _ HX2.out (fun _ => ?_)
    clear hK K
    refine norm_ (a' := ?_) ?_ ?_
    rotate_left
    · show Act.put _ (some 4) _ = _
      simp only [Act.put, List.setIfInBounds_toArray, List.set_cons_zero, List.set_cons_succ, i64_w, i32_w]
      rfl
    refine one_ (i := 3) (N := some 6) #[true, true, true, true, true, false, false, false, true, false] rfl rfl (by kernel_rfl) (by decide) (fun K hK => ?_)
    refine goes2_ Try.func47 (by kernel_rfl) rfl #[.agg #[.pointer (some ⟨B, 0, none⟩)]] (by rfl) rfl rfl (by first | rfl | (simp only [List.map_toArray, List.map_cons, List.map_nil]; rfl) | simp) ?_
    refine (ract_calls B base r1 w2 HS2.out HB2.out).mono ?_
    rintro e w3 hg
    rcases hp : pAct r1 with c | ⟨x2, r2⟩
    · obtain ⟨O, rfl⟩ := hg.no hp
      exact .inr ⟨_, rfl, rfl, Got.mk_no (by unfold pAlm; rw [pBind_ok HP1.out]; exact pBind_no hp) (only_trans HO2.out O) rfl⟩
    obtain ⟨O, v, rfl, hV, S1, b1⟩ := hg.yes hp
    cases hV
    have HP2 := Aside0.mk hp
    have HO3 := Aside0.mk (only_trans HO2.out O)
    have HS3 := Aside0.mk S1
    have HB3 := Aside0.mk b1
    have HX3 := Aside0.mk (HX2.out.only O HNE.out)
    have HZ3 := Aside0.mk (HZ2.out.only O (by have := HLT.out; omega))
    have HA3 := Aside0.mk (HA2.out.only O (by have := HLT.out; have := HQ.out; omega))
    clear hg hp O S1 b1
    refine .inl ⟨_, rfl, ?_⟩
    refine hK.out _ _ HX3.out (fun _ => ?_)
    clear hK K
    refine norm_ (a' := ?_) ?_ ?_
    rotate_left
    · show Act.put _ (some 6) _ = _
      simp only [Act.put, List.setIfInBounds_toArray, List.set_cons_zero, List.set_cons_succ, i64_w, i32_w]
      rfl
    refine one_ (i := 5) (N := some 8) #[true, true, true, true, true, true, false, false, true, false] rfl rfl (by kernel_rfl) (by decide) (fun K hK => ?_)
    refine goes2_ Try.func31 (by kernel_rfl) rfl #[.agg #[.pointer (some ⟨B, 0, none⟩)], .int .i64 1] (by rfl) rfl rfl (by first | rfl | (simp only [List.map_toArray, List.map_cons, List.map_nil]; rfl) | simp) ?_
    refine (get_calls B base 1 r2 w3 HS3.out HB3.out (by omega)).mono ?_
    rintro e w4 hg
    rcases hp : pGet 1 r2 with c | ⟨x3, r3⟩
    · obtain ⟨O, rfl⟩ := hg.no hp
      exact .inr ⟨_, rfl, rfl, Got.mk_no (by unfold pAlm; rw [pBind_ok HP1.out]; rw [pBind_ok HP2.out]; exact pBind_no hp) (only_trans HO3.out O) rfl⟩
    obtain ⟨O, v, rfl, hV, S1, b1⟩ := hg.yes hp
    cases hV
    have HP3 := Aside0.mk hp
    have HO4 := Aside0.mk (only_trans HO3.out O)
    have HS4 := Aside0.mk S1
    have HB4 := Aside0.mk b1
    have HX4 := Aside0.mk (HX3.out.only O HNE.out)
    have HZ4 := Aside0.mk (HZ3.out.only O (by have := HLT.out; omega))
    have HA4 := Aside0.mk (HA3.out.only O (by have := HLT.out; have := HQ.out; omega))
    have hz3 := (pGet_bd hp HB3.out).1
    have hy3 : x3 ≤ 255 := by have := (pGet_bd hp HB3.out).2.1; omega
    have hq3 : IntKind.u32.wrap x3 = x3 := u32_in hz3 (by omega)
    clear hg hp O S1 b1
    refine .inl ⟨_, rfl, ?_⟩
    refine hK.out _ _ HX4.out (fun _ => ?_)
    clear hK K
    refine norm_ (a' := ?_) ?_ ?_
    rotate_left
    · show Act.put _ (some 8) _ = _
      simp only [Act.put, List.setIfInBounds_toArray, List.set_cons_zero, List.set_cons_succ, i64_w, i32_w]
      rfl
    refine pure_ (i := 6) (N := some 9) (v := ?_) (a' := ?_) #[true, true, true, true, true, true, true, false, true, false] rfl rfl (by kernel_rfl) (fun _ _ _ h => h) (Or.inl ⟨by rfl, ?_⟩) ?_ ?_
    rotate_left
    · intro w_
      go_simp
      with_reducible rfl
    rotate_left
    · simp only [Act.put, List.setIfInBounds_toArray, List.set_cons_zero, List.set_cons_succ, i64_w, i32_w, hq3]
      rfl
    refine pure_ (i := 7) (N := some 10) (v := ?_) (a' := ?_) #[true, true, true, true, true, true, true, true, true, false] rfl rfl (by kernel_rfl) (fun _ _ _ h => h) (Or.inl ⟨by rfl, ?_⟩) ?_ ?_
    rotate_left
    · intro w_
      go_simp
      with_reducible rfl
    rotate_left
    · simp only [Act.put, List.setIfInBounds_toArray, List.set_cons_zero, List.set_cons_succ, i64_w, i32_w, hq3]
      rfl
    exact hJ (p, x1, x2, x3, r3) w4 ⟨_, _, HP1.out, HP2.out, HP3.out, ⟨HS4.out, HO4.out, HB4.out, HX4.out, HZ4.out, HA4.out, HG.out, Nat.le_refl _, HQ.out⟩⟩
end Go.Proofs.Ytbgcemijihpakaa.XA
