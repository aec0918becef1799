/- the document's answer of layer 8: Reckon: the contract. -/
import Derived.Test.YtflkbheginhfiaaHF
import Derived.Test.YtflkbheginhfiaaHD
namespace Go.Proofs.Ytflkbheginhfiaa.XA
set_option linter.unusedVariables false
set_option linter.unusedSimpArgs false
open Go.RowKit Go.WideMaps Go.Maps Go.Proofs.YtflkbheginhfiaaW.PrintWords Go.Proofs.YtflkbheginhfiaaW.PrintLast Go.Proofs.YtflkbheginhfiaaW.PrintMore
set_option maxRecDepth 1000000 in
set_option maxHeartbeats 4000000 in
theorem reckonR_calls (x : CV) (AT : Option Addr) (cT : Nat) (AR : Option Addr) (cR : Nat) (AI : Option Addr) (cI : Nat) (ts : List S64) (rs : List S73) (is : List S66) (w : World) (hC : Cfg w AT cT AR cR AI cI ts rs is) (hsz : rs.length ≤ 4398046511104) (ht : ts.length ≤ 4398046511104) (hi : is.length ≤ 4398046511104) :
    Calls Try.prog 13 #[.agg #[.string x.s0, .string x.s1, .bool x.b2, .bool x.b3, .bool x.b4, .bool x.b5, .bool x.b6, .bool x.b7, .bool x.b8, .bool x.b9, .slice x.A10 x.n10 x.c10, .slice AT ts.length cT, .slice AR rs.length cR, .slice x.A13 x.n13 x.c13, .slice x.A14 x.n14 x.c14, .slice x.A15 x.n15 x.c15, .slice AI is.length cI, .slice x.A17 x.n17 x.c17]] w fun e w' => Below w.heap.size w w' ∧ ∃ V sch L er, e = .returned (.tuple #[.agg #[V 0, .int .i64 sch, V 2, V 3, V 4], .int .i64 er]) ∧ Rows w' w.heap.size V L ∧ ReckonIs ts rs is x.b9 sch L er := by
  have HC := Aside0.mk hC
  clear hC
  have HBX := Aside0.mk ((BoxAt.made w x AT cT AR cR AI cI ts.length rs.length is.length).below ((Below.refl _ _).alloc (Nat.le_refl _) (.cells #[.slice none 0 0, .int .i64 0, .slice none 0 0, .slice none 0 0, .slice none 0 0] 41)))
  have HB0 := Aside0.mk (show Below w.heap.size w ((w.alloc (.cells #[.string x.s0, .string x.s1, .bool x.b2, .bool x.b3, .bool x.b4, .bool x.b5, .bool x.b6, .bool x.b7, .bool x.b8, .bool x.b9, .slice x.A10 x.n10 x.c10, .slice AT ts.length cT, .slice AR rs.length cR, .slice x.A13 x.n13 x.c13, .slice x.A14 x.n14 x.c14, .slice x.A15 x.n15 x.c15, .slice AI is.length cI, .slice x.A17 x.n17 x.c17] 36)).alloc (.cells #[.slice none 0 0, .int .i64 0, .slice none 0 0, .slice none 0 0, .slice none 0 0] 41)) from ((Below.refl _ _).alloc (Nat.le_refl _) _).alloc (by simp) _)
  have HZ0 := Aside0.mk (show ZeroAt ((w.alloc (.cells #[.string x.s0, .string x.s1, .bool x.b2, .bool x.b3, .bool x.b4, .bool x.b5, .bool x.b6, .bool x.b7, .bool x.b8, .bool x.b9, .slice x.A10 x.n10 x.c10, .slice AT ts.length cT, .slice AR rs.length cR, .slice x.A13 x.n13 x.c13, .slice x.A14 x.n14 x.c14, .slice x.A15 x.n15 x.c15, .slice AI is.length cI, .slice x.A17 x.n17 x.c17] 36)).alloc (.cells #[.slice none 0 0, .int .i64 0, .slice none 0 0, .slice none 0 0, .slice none 0 0] 41)) (w.heap.size + 1) from by
    have h := heap_alloc_new (w.alloc (.cells #[.string x.s0, .string x.s1, .bool x.b2, .bool x.b3, .bool x.b4, .bool x.b5, .bool x.b6, .bool x.b7, .bool x.b8, .bool x.b9, .slice x.A10 x.n10 x.c10, .slice AT ts.length cT, .slice AR rs.length cR, .slice x.A13 x.n13 x.c13, .slice x.A14 x.n14 x.c14, .slice x.A15 x.n15 x.c15, .slice AI is.length cI, .slice x.A17 x.n17 x.c17] 36)) (.cells #[.slice none 0 0, .int .i64 0, .slice none 0 0, .slice none 0 0, .slice none 0 0] 41)
    rw [World.size_alloc] at h
    exact h)
  have HCK := Aside0.mk (checkR_calls x AT cT AR cR AI cI ts rs is _ (HC.out.below HB0.out) hsz ht hi)
  unfold CV.arr at HBX
  go_enter Try.func13, Try.ntmps13
  go_wp2_with (first | ((with_reducible refine gate_dst (N := 14) rfl ?_); refine load36 HBX.out rfl (.tmp 1) rfl rfl ?_))
  generalize (w.alloc (.cells #[.string x.s0, .string x.s1, .bool x.b2, .bool x.b3, .bool x.b4, .bool x.b5, .bool x.b6, .bool x.b7, .bool x.b8, .bool x.b9, .slice x.A10 x.n10 x.c10, .slice AT ts.length cT, .slice AR rs.length cR, .slice x.A13 x.n13 x.c13, .slice x.A14 x.n14 x.c14, .slice x.A15 x.n15 x.c15, .slice AI is.length cI, .slice x.A17 x.n17 x.c17] 36)).alloc (.cells #[.slice none 0 0, .int .i64 0, .slice none 0 0, .slice none 0 0, .slice none 0 0] 41) = w0 at *
  have HBX : Aside0 (BoxAt w0 w.heap.size x AT cT AR cR AI cI ts.length rs.length is.length) := HBX
  refine HCK.out.mono ?_
  rintro e w1 ⟨B1, v, rfl, hsay⟩
  have HX := Aside0.mk (HBX.out.below B1)
  have HB := Aside0.mk (HB0.out.trans (B1.mono HB0.out.size))
  have HZ := Aside0.mk (HZ0.out.below B1)
  have HS := Aside0.mk hsay
  clear B1 hsay HBX HB0 HCK HZ0
  by_cases hv : v = 0
  · subst hv
    have HZO := Aside0.mk (says_zero HS.out)
    have HLK := Aside0.mk HZO.out.1.links
    go_wp2_with (first | ((with_reducible refine gate_dst (N := 20) rfl ?_); refine load36 HX.out rfl (.tmp 1) rfl rfl ?_))
    refine (schedulerR_calls x AT cT AR cR AI cI ts rs is w1 (HC.out.below HB.out) hsz ht hi).mono ?_
    rintro e wa ⟨rfl, B2⟩
    obtain ⟨sk, hsk⟩ : ∃ sk, schF ts ts.length = sk := ⟨_, rfl⟩
    rw [hsk]
    have HSK := Aside0.mk hsk
    clear hsk
    have HXa := Aside0.mk (HX.out.below B2)
    have HZa := Aside0.mk (HZ.out.below B2)
    have HBa := Aside0.mk (HB.out.trans (B2.mono HB.out.size))
    have hba : Below wa.heap.size wa (wa.alloc (.cells #[.slice none 0 0, .int .i64 sk, .slice none 0 0, .slice none 0 0, .slice none 0 0] 41)) := (Below.refl _ _).alloc (Nat.le_refl _) _
    have HXb := Aside0.mk (HXa.out.below hba)
    have HZb := Aside0.mk (HZa.out.below hba)
    have HBb := Aside0.mk (HBa.out.trans (hba.mono HBa.out.size))
    have HSb := Aside0.mk (show StR x AT cT AR cR AI cI ts.length rs.length is.length wa.heap.size w (fun _ => .slice none 0 0) sk Z4 (wa.alloc (.cells #[.slice none 0 0, .int .i64 sk, .slice none 0 0, .slice none 0 0, .slice none 0 0] 41)) from
      ⟨⟨heap_alloc_new wa _, fun i _ => Kd.R_nil _ _ _ _ _, fun i j _ _ _ g hg => by simp [Value.ownBlock] at hg⟩, ⟨HXb.out, HZb.out, HXa.out.lt, blk_lt HZa.out⟩, HBb.out⟩)
    clear B2 HX HB HZ hba HXa HZa HBa HXb HZb HBb
    go_wp2_with fail
    generalize wa.alloc (.cells #[.slice none 0 0, .int .i64 sk, .slice none 0 0, .slice none 0 0, .slice none 0 0] 41) = wb at *
    generalize wa.heap.size = O at *
    go_loopw [6] (fun i wq => ∃ (k : Nat) (V : Nat → Value) (L : Nat → List Int), k ≤ rs.length ∧ i = .int .i64 k ∧ Aside0 (L 0 = ceilsF ts rs is k ∧ L 2 = [] ∧ L 3 = [] ∧ L 4 = []) ∧ Aside0 (StR x AT cT AR cR AI cI ts.length rs.length is.length O w V sk L wq)) (fun i _ => rs.length - (intOf i).toNat)
    case atStart => exact ⟨0, _, Z4, by omega, rfl, ⟨rfl, rfl, rfl, rfl⟩, HSb⟩
    case round =>
      clear HSb
      obtain ⟨k, V, L, hk, rfl, HL, HS0⟩ := hrel
      obtain ⟨wo, rfl⟩ : ∃ wo : World, wo = wr := ⟨_, rfl⟩
      have q12 := HS0.out.env.box.res
      by_cases hlt : k < rs.length
      · have hd : decide ((k : Int) < (rs.length : Int)) = true := decide_eq_true (by omega)
        have HLT := Aside0.mk (Nat.succ_le_of_lt hlt)
        have HLE := Aside0.mk (show (L 0).length ≤ 4398046511104 by rw [HL.out.1, ceils_len]; omega)
        obtain ⟨cf, hcf⟩ : ∃ cf, ceilF ts rs is k = cf := ⟨_, rfl⟩
        have HCF := Aside0.mk hcf
        have HXo := Aside0.mk HS0.out.env.box
        clear hcf
        go_wp2_with fail
        clear q12
        refine start_ (n := 9) (S := fun w_ => Below wo.heap.size wo w_) (ds := [6, 8]) #[false, false, false, false, false, false, false, false, false] (by kernel_rfl) rfl rfl (drew_below wo) (fun hHeld => ?_)
        have HH := Aside0.mk hHeld
        clear hHeld
        generalize wo.drew = wv at HH ⊢
        refine pure_ (i := 0) (N := some 30) (v := ?_) (a' := ?_) #[true, false, false, false, false, false, false, false, false] rfl rfl (by kernel_rfl) (fun _ _ _ h => h) (Or.inl ⟨by rfl, ?_⟩) ?_ ?_
        rotate_left
        · intro w_
          go_simp
          with_reducible rfl
        rotate_left
        · simp only [Act.put, List.setIfInBounds_toArray, List.set_cons_zero, List.set_cons_succ, i64_w, i32_w]
          rfl
        refine take_ (i := 1) (N := some 31) (v := ?_) (a' := ?_) #[true, true, false, false, false, false, false, false, false] rfl rfl (by kernel_rfl) (fun _ _ _ h => h) (Or.inl ⟨by rfl, ?_⟩) HH.out ?_ ?_
        rotate_left
        · rintro w_ s
          obtain ⟨o0, _⟩ := (HS0.out.below s).out.cells
          go_simp
          with_reducible rfl
        rotate_left
        · simp only [Act.put, List.setIfInBounds_toArray, List.set_cons_zero, List.set_cons_succ, i64_w, i32_w]
          rfl
        refine take_ (i := 2) (N := some 32) (v := ?_) (a' := ?_) #[true, true, true, false, false, false, false, false, false] rfl rfl (by kernel_rfl) (fun _ _ _ h => h) (Or.inl ⟨by rfl, ?_⟩) HH.out ?_ ?_
        rotate_left
        · rintro w_ s
          refine run36 (HXo.out.below s) (.tmp 1) ?_ ?_ <;> rfl
        rotate_left
        · simp only [Act.put, List.setIfInBounds_toArray, List.set_cons_zero, List.set_cons_succ, i64_w, i32_w]
          rfl
        refine pure_ (i := 3) (N := some 33) (v := ?_) (a' := ?_) #[true, true, true, true, false, false, false, false, false] rfl rfl (by kernel_rfl) (fun _ _ _ h => h) (Or.inl ⟨by rfl, ?_⟩) ?_ ?_
        rotate_left
        · intro w_
          go_simp
          with_reducible rfl
        rotate_left
        · simp only [Act.put, List.setIfInBounds_toArray, List.set_cons_zero, List.set_cons_succ, i64_w, i32_w]
          rfl
        refine one_ (i := 4) (N := some 34) #[true, true, true, true, true, false, false, false, false] rfl rfl (by kernel_rfl) (by decide) (fun K hK => ?_)
        refine goes_ Try.func34 (by kernel_rfl) rfl #[.agg #[.string x.s0, .string x.s1, .bool x.b2, .bool x.b3, .bool x.b4, .bool x.b5, .bool x.b6, .bool x.b7, .bool x.b8, .bool x.b9, .slice x.A10 x.n10 x.c10, .slice AT ts.length cT, .slice AR rs.length cR, .slice x.A13 x.n13 x.c13, .slice x.A14 x.n14 x.c14, .slice x.A15 x.n15 x.c15, .slice AI is.length cI, .slice x.A17 x.n17 x.c17], .int .i64 (k : Int)] (by rfl) rfl rfl (by first | rfl | (simp only [List.map_toArray, List.map_cons, List.map_nil]; rfl) | simp) ?_
        refine (ceilingR_calls x AT cT AR cR AI cI ts rs is k wv (HC.out.below (HS0.out.bel.trans (HH.out.mono HS0.out.bel.size))) hsz ht hi HS.out HLT.out).mono ?_
        rintro e wb2 ⟨rfl, B2⟩
        rw [HCF.out]
        refine ⟨_, rfl, ?_⟩
        have HH2 := Aside0.mk (HH.out.trans (B2.mono HH.out.size))
        clear HH B2
        have HH := HH2
        clear HH2
        refine hK.out _ _ HH.out (fun _ => ?_)
        clear hK K
        refine norm_ (a' := ?_) ?_ ?_
        rotate_left
        · show Act.put _ (some 34) _ = _
          simp only [Act.put, List.setIfInBounds_toArray, List.set_cons_zero, List.set_cons_succ, i64_w, i32_w]
          rfl
        have HSW := Aside0.mk (HS0.out.below HH.out)
        refine one_ (i := 5) (N := some 35) #[true, true, true, true, true, true, false, false, false] rfl rfl (by kernel_rfl) (by decide) (fun K hK => ?_)
        go_simp
        refine hK.out _ _ (HH.out.alloc HH.out.size _) (fun _ => ?_)
        clear hK K
        refine last_ (i := 6) (N := some 36) #[true, true, true, true, true, true, true, false, false] rfl rfl (by kernel_rfl) (by decide) (fun K hK => ?_)
        refine Kd.R_append_step (Kd.int .i64) (w0 := w) w.heap.size (by rfl) (.tmp 31) (.tmp 35) 39 3 (.int .i64 0) 8 rfl Try.underlying39 info3 rfl (by decide) (by omega) _ (L 0) (cf) [.int .i64 (cf)] (fun _ => True) (fun _ => False) rfl rfl rfl (fun _ h => h.elim) (fun _ _ => trivial) (HSW.out.out.row 0 (.inl rfl)) (HSW.out.bel) (HSW.out.bel).size ?hl ?_
        (case hl => have := HLE.out; omega)
        intro v3 w3 HR3 HB3 HG3 HA3
        obtain ⟨A3, c3, e3⟩ := row_slice HR3; subst e3; have th := HSW.out.out.after 0 (.inl rfl) HG3; have tf0 := th.2.2.2.2.2 0; have tc0 := th.1; clear th; have HS2n := Aside0.mk (HSW.out.app 0 (.inl rfl) _ cf HR3 HB3 HG3 HA3); clear HR3 HB3 HG3 HA3
        refine hK.out _ _ ?_
        clear hK K
        refine norm_ (a' := ?_) ?_ ?_
        rotate_left
        · show Act.put _ (some 36) _ = _
          simp only [Act.put, List.setIfInBounds_toArray, List.set_cons_zero, List.set_cons_succ, i64_w, i32_w]
          rfl
        refine pure_ (i := 7) (N := some 37) (v := ?_) (a' := ?_) #[true, true, true, true, true, true, true, true, false] rfl rfl (by kernel_rfl) (fun _ _ _ h => h) (Or.inl ⟨by rfl, ?_⟩) ?_ ?_
        rotate_left
        · intro w_
          go_simp
          with_reducible rfl
        rotate_left
        · simp only [Act.put, List.setIfInBounds_toArray, List.set_cons_zero, List.set_cons_succ, i64_w, i32_w]
          rfl
        refine last_ (i := 8) (N := none) #[true, true, true, true, true, true, true, true, true] rfl rfl (by kernel_rfl) (by decide) (fun K hK => ?_)
        go_simp
        refine hK.out _ _ ?_
        clear hK K
        refine done_ (by kernel_rfl) ?_
        clear HSW HS0 HXo HH tf0 tc0
        have HLL := Aside0.mk (show (upd L 0 (L 0 ++ [cf])) 0 = ceilsF ts rs is (k + 1) ∧ (upd L 0 (L 0 ++ [cf])) 2 = [] ∧ (upd L 0 (L 0 ++ [cf])) 3 = [] ∧ (upd L 0 (L 0 ++ [cf])) 4 = [] from ⟨by rw [upd_same, ceils_snoc, HL.out.1, HCF.out], by rw [upd_other L _ (by decide)]; exact HL.out.2.1, by rw [upd_other L _ (by decide)]; exact HL.out.2.2.1, by rw [upd_other L _ (by decide)]; exact HL.out.2.2.2⟩)
        go_wp2_with fail
        go_roundw
        case rel => exact ⟨k + 1, _, _, HLT.out, by go_num, HLL, HS2n⟩
        case measure => have := HLT.out; simp [intOf]; omega
      · have hd : decide ((k : Int) < (rs.length : Int)) = false := decide_eq_false (by omega)
        have HL1 := Aside0.mk (show L 0 = ceilsF ts rs is rs.length ∧ L 2 = [] ∧ L 3 = [] ∧ L 4 = [] by rw [← show k = rs.length by omega]; exact HL.out)
        clear HL
        go_wp2_with fail
        clear q12 hd hk hlt
        go_loopw [7, 8, 9, 10, 11, 12] (fun i _ _ _ _ _ wq => ∃ (k : Nat) (V : Nat → Value) (L : Nat → List Int), k ≤ ts.length ∧ i = .int .i64 k ∧ Aside0 (L 0 = ceilsF ts rs is rs.length ∧ L 2 = runsF ts rs is k ∧ L 3 = cntsF ts rs x.b9 k ∧ L 4 = []) ∧ Aside0 (StR x AT cT AR cR AI cI ts.length rs.length is.length O w V sk L wq)) (fun i _ _ _ _ _ _ => ts.length - (intOf i).toNat)
        case atStart => exact ⟨0, V, L, by omega, rfl, ⟨HL1.out.1, HL1.out.2.1, HL1.out.2.2.1, HL1.out.2.2.2⟩, HS0⟩
        case round =>
          clear HS0 HL1
          obtain ⟨k, V, L, hk, rfl, HL, HS0⟩ := hrel
          obtain ⟨wo, rfl⟩ : ∃ wo : World, wo = wr := ⟨_, rfl⟩
          have q11 := HS0.out.env.box.tasks
          by_cases hlt : k < ts.length
          · have hd : decide ((k : Int) < (ts.length : Int)) = true := decide_eq_true (by omega)
            have HLT := Aside0.mk (Nat.succ_le_of_lt hlt)
            obtain ⟨ad, A4, c4, A5, c5, A6, c6, A7, c7, e, hta, l5, g5⟩ := task_cells (HC.out.below HS0.out.bel).t k hlt
            subst e
            have HTA := Aside0.mk hta
            have HRG := Aside0.mk (rises_range rs.length _ (-1) (HZO.out.1.t k hlt))
            have HRL := Aside0.mk (run_le HZO.out.1 HZO.out.2.1 HZO.out.2.2 k hlt)
            have hln := rises_le rs.length _ (HZO.out.1.t k hlt)
            have HG5 := Aside0.mk g5
            obtain ⟨t, ht0⟩ : ∃ t, ts.getD k z64 = t := ⟨_, rfl⟩
            rw [ht0] at HTA HRG HG5 l5 hln HRL
            have HT := Aside0.mk ht0
            clear g5 hta ht0
            have hba : Below wo.heap.size wo (wo.alloc (.cells #[.string t.f0, .int .i64 t.f1, .bool t.f2, .int .i64 t.f3, .slice A4 t.f4.length c4, .slice A5 t.f5.length c5, .slice A6 t.f6.length c6, .slice A7 t.f7.length c7] 64)) := (Below.refl _ _).alloc (Nat.le_refl _) _
            have HSa := Aside0.mk (HS0.out.below hba)
            have HGa := Aside0.mk (Kd.C_below HG5.out hba)
            have HTB := Aside0.mk (show (wo.alloc (.cells #[.string t.f0, .int .i64 t.f1, .bool t.f2, .int .i64 t.f3, .slice A4 t.f4.length c4, .slice A5 t.f5.length c5, .slice A6 t.f6.length c6, .slice A7 t.f7.length c7] 64)).heap[wo.heap.size]? = some (.cells #[.string t.f0, .int .i64 t.f1, .bool t.f2, .int .i64 t.f3, .slice A4 t.f4.length c4, .slice A5 t.f5.length c5, .slice A6 t.f6.length c6, .slice A7 t.f7.length c7] 64 (0, 0)) from heap_alloc_new wo _)
            have hy1 : (wo.alloc (.cells #[.string t.f0, .int .i64 t.f1, .bool t.f2, .int .i64 t.f3, .slice A4 t.f4.length c4, .slice A5 t.f5.length c5, .slice A6 t.f6.length c6, .slice A7 t.f7.length c7] 64)).cell? ⟨wo.heap.size, 1, none⟩ = some (.int .i64 t.f1) := by rw [World.cell?_alloc_new]; rfl
            have hlen := HGa.out.2.1
            clear hba HS0 HG5
            go_wp2_with (first | ((with_reducible refine gate_dst (N := 49) rfl ?_); refine load64 HTA.out rfl (.tmp 48) rfl rfl ?_))
            clear HTA hy1 q11
            generalize wo.alloc (.cells #[.string t.f0, .int .i64 t.f1, .bool t.f2, .int .i64 t.f3, .slice A4 t.f4.length c4, .slice A5 t.f5.length c5, .slice A6 t.f6.length c6, .slice A7 t.f7.length c7] 64) = wa at *
            generalize wo.heap.size = X at *
            go_loopw [9, 10, 11, 12] (fun p n i _ wq => ∃ j : Nat, j ≤ t.f5.length ∧ i = .int .i64 j ∧ p = .int .i64 (runP ts rs is (t.f5.take j) t.f1) ∧ n = .int .i64 (runN rs (t.f5.take j)) ∧ Aside0 (Below wa.heap.size wa wq)) (fun _ _ i _ _ => t.f5.length - (intOf i).toNat)
            case atStart => exact ⟨0, by omega, rfl, rfl, rfl, ⟨Below.refl _ _⟩⟩
            case round =>
              obtain ⟨j, hj, rfl, rfl, rfl, HW⟩ := hrel
              have HTi := Aside0.mk ((HW.out.block X (blk_lt HTB.out)).trans HTB.out)
              have HSi := Aside0.mk (HSa.out.below HW.out)
              have HXi := Aside0.mk HSi.out.env.box
              have hy5 : wr.cell? ⟨X, 5, none⟩ = some (.slice A5 t.f5.length c5) := by simp [World.cell?, HTi.out]
              by_cases hjl : j < t.f5.length
              · have hjd : decide ((j : Int) < (t.f5.length : Int)) = true := decide_eq_true (by omega)
                have HJL := Aside0.mk (Nat.succ_le_of_lt hjl)
                obtain ⟨ad5, e5, hc0⟩ := (Kd.reads_of_C (d := (0 : Int)) (Kd.C_below HGa.out HW.out)).2.2 (by omega)
                subst e5
                have hx := hc0 j hjl
                have hsp := runP_step ts rs is t.f5 t.f1 j hjl
                have hsn := runN_step rs t.f5 j hjl
                have hle := runN_le rs t.f5 j hj
                have hmem : t.f5.getD j 0 ∈ t.f5 := by rw [List.getD_eq_getElem?_getD, List.getElem?_eq_getElem hjl]; exact List.getElem_mem hjl
                obtain ⟨h0, h1⟩ := HRG.out _ hmem
                obtain ⟨r, hr0⟩ := Int.eq_ofNat_of_zero_le (by omega : 0 ≤ t.f5.getD j 0)
                rw [hr0] at hx hsp hsn h1
                rw [show ((r : Int)).toNat = r from Int.toNat_natCast r] at hsp hsn
                have HRR := Aside0.mk (show r < rs.length by omega)
                have HSP := Aside0.mk hsp
                have HSN := Aside0.mk hsn
                obtain ⟨cf, hcf⟩ : ∃ cf, ceilF ts rs is r = cf := ⟨_, rfl⟩
                have HCF := Aside0.mk hcf
                clear hc0 hmem h0 h1 hr0 hsp hsn hcf
                generalize runP ts rs is (t.f5.take j) t.f1 = p at *
                generalize runN rs (t.f5.take j) = n at *
                go_wp2_with (first | ((with_reducible refine gate_dst (N := 64) rfl ?_); refine load36 HXi.out rfl (.tmp 1) rfl rfl ?_))
                clear hy5 hx
                refine (internalR_calls x (some ad) cT AR cR AI cI ts rs is r wr (HC.out.below HSi.out.bel) HRR.out hsz).mono ?_
                rintro e wc ⟨rfl, B2⟩
                have HWc := Aside0.mk (HW.out.trans (B2.mono HW.out.size))
                have HXc := Aside0.mk (HXi.out.below B2)
                have HBc := Aside0.mk (HSi.out.bel.trans (B2.mono HSi.out.bel.size))
                clear B2 HW HXi HSi HTi
                by_cases ck : kindOf rs r = 3
                · have cb : (kindOf rs r == 3) = true := by simp [ck]
                  have HN2 := Aside0.mk (show runN rs (t.f5.take (j + 1)) = n by rw [HSN.out, if_pos ck])
                  have HP2 := Aside0.mk (show runP ts rs is (t.f5.take (j + 1)) t.f1 = max p cf by rw [HSP.out, if_pos ck, HCF.out])
                  clear ck
                  go_wp2_with (first | ((with_reducible refine gate_dst (N := 70) rfl ?_); refine load36 HXc.out rfl (.tmp 1) rfl rfl ?_))
                  refine (ceilingR_calls x (some ad) cT AR cR AI cI ts rs is r wc (HC.out.below HBc.out) hsz ht hi HS.out HRR.out).mono ?_
                  rintro e wd ⟨rfl, B2⟩
                  rw [HCF.out]
                  have HWd := Aside0.mk (HWc.out.trans (B2.mono HWc.out.size))
                  have HXd := Aside0.mk (HXc.out.below B2)
                  have HBd := Aside0.mk (HBc.out.trans (B2.mono HBc.out.size))
                  clear B2 HWc HXc HBc
                  by_cases hpc : p < cf
                  · have hpb : decide (p < cf) = true := decide_eq_true hpc
                    have HP3 := Aside0.mk (show runP ts rs is (t.f5.take (j + 1)) t.f1 = cf by rw [HP2.out]; omega)
                    clear hpc
                    go_wp2_with (first | ((with_reducible refine gate_dst (N := 75) rfl ?_); refine load36 HXd.out rfl (.tmp 1) rfl rfl ?_))
                    refine (ceilingR_calls x (some ad) cT AR cR AI cI ts rs is r wd (HC.out.below HBd.out) hsz ht hi HS.out HRR.out).mono ?_
                    rintro e we ⟨rfl, B2⟩
                    rw [HCF.out]
                    have HWe := Aside0.mk (HWd.out.trans (B2.mono HWd.out.size))
                    clear B2 HWd HXd HBd
                    go_wp2_with fail
                    go_roundw
                    case rel => exact ⟨j + 1, HJL.out, by go_num, by rw [HP3.out], by rw [HN2.out], HWe⟩
                    case measure => have := HJL.out; simp [intOf]; omega
                  · have hpb : decide (p < cf) = false := decide_eq_false hpc
                    have HP3 := Aside0.mk (show runP ts rs is (t.f5.take (j + 1)) t.f1 = p by rw [HP2.out]; omega)
                    clear hpc
                    go_wp2_with fail
                    go_roundw
                    case rel => exact ⟨j + 1, HJL.out, by go_num, by rw [HP3.out], by rw [HN2.out], HWd⟩
                    case measure => have := HJL.out; simp [intOf]; omega
                · have cb : (kindOf rs r == 3) = false := by simp [ck]
                  have HP2 := Aside0.mk (show runP ts rs is (t.f5.take (j + 1)) t.f1 = p by rw [HSP.out, if_neg ck])
                  have HN2 := Aside0.mk (show runN rs (t.f5.take (j + 1)) = n + 1 by rw [HSN.out, if_neg ck])
                  clear ck
                  go_wp2_with fail
                  go_roundw
                  case rel => exact ⟨j + 1, HJL.out, by go_num, by rw [HP2.out], by rw [HN2.out], HWc⟩
                  case measure => have := HJL.out; simp [intOf]; omega
              · have hjd : decide ((j : Int) < (t.f5.length : Int)) = false := decide_eq_false (by omega)
                have HJ := Aside0.mk (show t.f5.take j = t.f5 from List.take_of_length_le (by omega))
                obtain ⟨hle0, hle1⟩ := runN_le rs t.f5 j hj
                rw [HJ.out] at hle0 hle1
                rw [HJ.out]
                obtain ⟨p, hp0⟩ : ∃ p, runP ts rs is t.f5 t.f1 = p := ⟨_, rfl⟩
                obtain ⟨n, hn0⟩ : ∃ n, runN rs t.f5 = n := ⟨_, rfl⟩
                rw [hp0, hn0]
                rw [hn0] at hle0 hle1
                rw [hp0, HSK.out] at HRL
                have HP := Aside0.mk hp0
                have HN := Aside0.mk hn0
                clear hp0 hn0
                have hy2 : wr.cell? ⟨X, 2, none⟩ = some (.bool t.f2) := by simp [World.cell?, HTi.out]
                have s9 := HXi.out.sched
                obtain ⟨_, o1, o2, _, _, _⟩ := HSi.out.out.cells
                have HL2 := Aside0.mk (show (L 2).length ≤ 4398046511104 by rw [HL.out.2.1, runs_len]; omega)
                have HL3 := Aside0.mk (show (L 3).length ≤ 4398046511104 by rw [HL.out.2.2.1, cnts_len]; omega)
                clear HTi HW HSa HTB HGa HXi
                rcases Bool.eq_false_or_eq_true t.f2 with hf2 | hf2
                · rw [hf2] at hy2
                  have HF2 := Aside0.mk hf2
                  clear hf2
                  rcases Bool.eq_false_or_eq_true x.b9 with hb9 | hb9
                  · rw [hb9] at s9
                    have HB9 := Aside0.mk hb9
                    clear hb9
                    have HPV := Aside0.mk (show runF ts rs is t = p by unfold runF; rw [if_pos HF2.out, HP.out])
                    have HNV := Aside0.mk (show cntT rs x.b9 t = (n + 1) by unfold cntT; rw [HB9.out, HN.out]; rfl)
                    go_wp2_with (first | ((with_reducible refine gate_builtin (b := .append) (xs := #[.tmp 89, .tmp 91]) rfl ?_); at_builtin; refine Kd.R_append (Kd.int .i64) (w0 := w) w.heap.size rfl (.tmp 89) (.tmp 91) 39 3 (.int .i64 0) 8 rfl Try.underlying39 info3 rfl (by decide) (by omega) _ (L 2) p [.int .i64 p] (fun _ => True) (fun _ => False) rfl rfl rfl (fun _ h => h.elim) (fun _ _ => trivial) (HSi.out.out.row 2 (.inr (.inl rfl))) HSi.out.bel HSi.out.bel.size ?hl ?_; (case hl => have := HL2.out; omega); intro v3 w3 HR HB HG HA; obtain ⟨A3, c3, e3⟩ := row_slice HR; subst e3; have th := (HSi.out.out.after 2 (.inr (.inl rfl)) HG); have tf2 := th.2.2.2.2.2 2; have tc2 := th.2.2.1; clear th; have HSc := Aside0.mk (HSi.out.app 2 (.inr (.inl rfl)) _ p HR HB HG HA); clear HR HB HG HA o2; have u3 := HSc.out.out.cells.2.2.2.1; have u3 : (w3.setCell ⟨O, 2, none⟩ (.slice A3 ((L 2).length + 1) c3)).cell? ⟨O, 3, none⟩ = some (V 3) := u3) | ((with_reducible refine gate_builtin (b := .append) (xs := #[.tmp 95, .tmp 97]) rfl ?_); at_builtin; (refine Kd.R_append (Kd.int .i64) (w0 := w) w.heap.size rfl (.tmp 95) (.tmp 97) 39 3 (.int .i64 0) 8 rfl Try.underlying39 info3 rfl (by decide) (by omega) (V 3) (L 3) (n + 1) [.int .i64 (n + 1)] (fun _ => True) (fun _ => False) rfl (by rw [World.size_setCell]; rfl) rfl (fun _ h => h.elim) (fun _ _ => trivial) (show (Kd.int .i64).R 3 _ w.heap.size (fun _ => True) (V 3) (L 3) from HSc.out.out.row 3 (.inr (.inr (.inl rfl)))) HSc.out.bel HSc.out.bel.size ?hl ?_; (case hl => have := HL3.out; omega); intro v4 w4 HR HB HG HA; obtain ⟨A4, c4, e4⟩ := row_slice HR; subst e4; have th := (HSc.out.out.after 3 (.inr (.inr (.inl rfl))) (show World.grownBy _ _ (V 3).ownBlock from HG)); have tf3 := th.2.2.2.2.2 3; have tc3 := th.2.2.2.1; clear th; have HSd := Aside0.mk (HSc.out.app 3 (.inr (.inr (.inl rfl))) _ (n + 1) HR HB (show World.grownBy _ _ (V 3).ownBlock from HG) HA); clear HR HB HG HA u3)))
                    all_goals try omega
                    go_roundw
                    case rel => exact ⟨k + 1, _, _, HLT.out, by go_num, ⟨show upd (upd L 2 (L 2 ++ [p])) 3 _ 0 = _ from HL.out.1, by show L 2 ++ [p] = _; rw [runs_snoc, HL.out.2.1, HT.out, HPV.out], by show L 3 ++ [(n + 1)] = _; rw [cnts_snoc, HL.out.2.2.1, HT.out, HNV.out], HL.out.2.2.2⟩, HSd⟩
                    case measure => have := HLT.out; simp [intOf]; omega
                  · rw [hb9] at s9
                    have HB9 := Aside0.mk hb9
                    clear hb9
                    have HPV := Aside0.mk (show runF ts rs is t = p by unfold runF; rw [if_pos HF2.out, HP.out])
                    have HNV := Aside0.mk (show cntT rs x.b9 t = n by unfold cntT; rw [HB9.out, HN.out]; rfl)
                    go_wp2_with (first | ((with_reducible refine gate_builtin (b := .append) (xs := #[.tmp 89, .tmp 91]) rfl ?_); at_builtin; refine Kd.R_append (Kd.int .i64) (w0 := w) w.heap.size rfl (.tmp 89) (.tmp 91) 39 3 (.int .i64 0) 8 rfl Try.underlying39 info3 rfl (by decide) (by omega) _ (L 2) p [.int .i64 p] (fun _ => True) (fun _ => False) rfl rfl rfl (fun _ h => h.elim) (fun _ _ => trivial) (HSi.out.out.row 2 (.inr (.inl rfl))) HSi.out.bel HSi.out.bel.size ?hl ?_; (case hl => have := HL2.out; omega); intro v3 w3 HR HB HG HA; obtain ⟨A3, c3, e3⟩ := row_slice HR; subst e3; have th := (HSi.out.out.after 2 (.inr (.inl rfl)) HG); have tf2 := th.2.2.2.2.2 2; have tc2 := th.2.2.1; clear th; have HSc := Aside0.mk (HSi.out.app 2 (.inr (.inl rfl)) _ p HR HB HG HA); clear HR HB HG HA o2; have u3 := HSc.out.out.cells.2.2.2.1; have u3 : (w3.setCell ⟨O, 2, none⟩ (.slice A3 ((L 2).length + 1) c3)).cell? ⟨O, 3, none⟩ = some (V 3) := u3) | ((with_reducible refine gate_builtin (b := .append) (xs := #[.tmp 95, .tmp 97]) rfl ?_); at_builtin; (refine Kd.R_append (Kd.int .i64) (w0 := w) w.heap.size rfl (.tmp 95) (.tmp 97) 39 3 (.int .i64 0) 8 rfl Try.underlying39 info3 rfl (by decide) (by omega) (V 3) (L 3) n [.int .i64 n] (fun _ => True) (fun _ => False) rfl (by rw [World.size_setCell]; rfl) rfl (fun _ h => h.elim) (fun _ _ => trivial) (show (Kd.int .i64).R 3 _ w.heap.size (fun _ => True) (V 3) (L 3) from HSc.out.out.row 3 (.inr (.inr (.inl rfl)))) HSc.out.bel HSc.out.bel.size ?hl ?_; (case hl => have := HL3.out; omega); intro v4 w4 HR HB HG HA; obtain ⟨A4, c4, e4⟩ := row_slice HR; subst e4; have th := (HSc.out.out.after 3 (.inr (.inr (.inl rfl))) (show World.grownBy _ _ (V 3).ownBlock from HG)); have tf3 := th.2.2.2.2.2 3; have tc3 := th.2.2.2.1; clear th; have HSd := Aside0.mk (HSc.out.app 3 (.inr (.inr (.inl rfl))) _ n HR HB (show World.grownBy _ _ (V 3).ownBlock from HG) HA); clear HR HB HG HA u3)))
                    all_goals try omega
                    go_roundw
                    case rel => exact ⟨k + 1, _, _, HLT.out, by go_num, ⟨show upd (upd L 2 (L 2 ++ [p])) 3 _ 0 = _ from HL.out.1, by show L 2 ++ [p] = _; rw [runs_snoc, HL.out.2.1, HT.out, HPV.out], by show L 3 ++ [n] = _; rw [cnts_snoc, HL.out.2.2.1, HT.out, HNV.out], HL.out.2.2.2⟩, HSd⟩
                    case measure => have := HLT.out; simp [intOf]; omega
                · rw [hf2] at hy2
                  have HF2 := Aside0.mk hf2
                  clear hf2
                  rcases Bool.eq_false_or_eq_true x.b9 with hb9 | hb9
                  · rw [hb9] at s9
                    have HB9 := Aside0.mk hb9
                    clear hb9
                    have HPV := Aside0.mk (show runF ts rs is t = sk by unfold runF; rw [if_neg (by rw [HF2.out]; decide), HP.out, HSK.out]; have := HRL.out; omega)
                    have HNV := Aside0.mk (show cntT rs x.b9 t = (n + 1) by unfold cntT; rw [HB9.out, HN.out]; rfl)
                    go_wp2_with (first | ((with_reducible refine gate_builtin (b := .append) (xs := #[.tmp 89, .tmp 91]) rfl ?_); at_builtin; refine Kd.R_append (Kd.int .i64) (w0 := w) w.heap.size rfl (.tmp 89) (.tmp 91) 39 3 (.int .i64 0) 8 rfl Try.underlying39 info3 rfl (by decide) (by omega) _ (L 2) sk [.int .i64 sk] (fun _ => True) (fun _ => False) rfl rfl rfl (fun _ h => h.elim) (fun _ _ => trivial) (HSi.out.out.row 2 (.inr (.inl rfl))) HSi.out.bel HSi.out.bel.size ?hl ?_; (case hl => have := HL2.out; omega); intro v3 w3 HR HB HG HA; obtain ⟨A3, c3, e3⟩ := row_slice HR; subst e3; have th := (HSi.out.out.after 2 (.inr (.inl rfl)) HG); have tf2 := th.2.2.2.2.2 2; have tc2 := th.2.2.1; clear th; have HSc := Aside0.mk (HSi.out.app 2 (.inr (.inl rfl)) _ sk HR HB HG HA); clear HR HB HG HA o2; have u3 := HSc.out.out.cells.2.2.2.1; have u3 : (w3.setCell ⟨O, 2, none⟩ (.slice A3 ((L 2).length + 1) c3)).cell? ⟨O, 3, none⟩ = some (V 3) := u3) | ((with_reducible refine gate_builtin (b := .append) (xs := #[.tmp 95, .tmp 97]) rfl ?_); at_builtin; (refine Kd.R_append (Kd.int .i64) (w0 := w) w.heap.size rfl (.tmp 95) (.tmp 97) 39 3 (.int .i64 0) 8 rfl Try.underlying39 info3 rfl (by decide) (by omega) (V 3) (L 3) (n + 1) [.int .i64 (n + 1)] (fun _ => True) (fun _ => False) rfl (by rw [World.size_setCell]; rfl) rfl (fun _ h => h.elim) (fun _ _ => trivial) (show (Kd.int .i64).R 3 _ w.heap.size (fun _ => True) (V 3) (L 3) from HSc.out.out.row 3 (.inr (.inr (.inl rfl)))) HSc.out.bel HSc.out.bel.size ?hl ?_; (case hl => have := HL3.out; omega); intro v4 w4 HR HB HG HA; obtain ⟨A4, c4, e4⟩ := row_slice HR; subst e4; have th := (HSc.out.out.after 3 (.inr (.inr (.inl rfl))) (show World.grownBy _ _ (V 3).ownBlock from HG)); have tf3 := th.2.2.2.2.2 3; have tc3 := th.2.2.2.1; clear th; have HSd := Aside0.mk (HSc.out.app 3 (.inr (.inr (.inl rfl))) _ (n + 1) HR HB (show World.grownBy _ _ (V 3).ownBlock from HG) HA); clear HR HB HG HA u3)))
                    all_goals try omega
                    go_roundw
                    case rel => exact ⟨k + 1, _, _, HLT.out, by go_num, ⟨show upd (upd L 2 (L 2 ++ [sk])) 3 _ 0 = _ from HL.out.1, by show L 2 ++ [sk] = _; rw [runs_snoc, HL.out.2.1, HT.out, HPV.out], by show L 3 ++ [(n + 1)] = _; rw [cnts_snoc, HL.out.2.2.1, HT.out, HNV.out], HL.out.2.2.2⟩, HSd⟩
                    case measure => have := HLT.out; simp [intOf]; omega
                  · rw [hb9] at s9
                    have HB9 := Aside0.mk hb9
                    clear hb9
                    have HPV := Aside0.mk (show runF ts rs is t = sk by unfold runF; rw [if_neg (by rw [HF2.out]; decide), HP.out, HSK.out]; have := HRL.out; omega)
                    have HNV := Aside0.mk (show cntT rs x.b9 t = n by unfold cntT; rw [HB9.out, HN.out]; rfl)
                    go_wp2_with (first | ((with_reducible refine gate_builtin (b := .append) (xs := #[.tmp 89, .tmp 91]) rfl ?_); at_builtin; refine Kd.R_append (Kd.int .i64) (w0 := w) w.heap.size rfl (.tmp 89) (.tmp 91) 39 3 (.int .i64 0) 8 rfl Try.underlying39 info3 rfl (by decide) (by omega) _ (L 2) sk [.int .i64 sk] (fun _ => True) (fun _ => False) rfl rfl rfl (fun _ h => h.elim) (fun _ _ => trivial) (HSi.out.out.row 2 (.inr (.inl rfl))) HSi.out.bel HSi.out.bel.size ?hl ?_; (case hl => have := HL2.out; omega); intro v3 w3 HR HB HG HA; obtain ⟨A3, c3, e3⟩ := row_slice HR; subst e3; have th := (HSi.out.out.after 2 (.inr (.inl rfl)) HG); have tf2 := th.2.2.2.2.2 2; have tc2 := th.2.2.1; clear th; have HSc := Aside0.mk (HSi.out.app 2 (.inr (.inl rfl)) _ sk HR HB HG HA); clear HR HB HG HA o2; have u3 := HSc.out.out.cells.2.2.2.1; have u3 : (w3.setCell ⟨O, 2, none⟩ (.slice A3 ((L 2).length + 1) c3)).cell? ⟨O, 3, none⟩ = some (V 3) := u3) | ((with_reducible refine gate_builtin (b := .append) (xs := #[.tmp 95, .tmp 97]) rfl ?_); at_builtin; (refine Kd.R_append (Kd.int .i64) (w0 := w) w.heap.size rfl (.tmp 95) (.tmp 97) 39 3 (.int .i64 0) 8 rfl Try.underlying39 info3 rfl (by decide) (by omega) (V 3) (L 3) n [.int .i64 n] (fun _ => True) (fun _ => False) rfl (by rw [World.size_setCell]; rfl) rfl (fun _ h => h.elim) (fun _ _ => trivial) (show (Kd.int .i64).R 3 _ w.heap.size (fun _ => True) (V 3) (L 3) from HSc.out.out.row 3 (.inr (.inr (.inl rfl)))) HSc.out.bel HSc.out.bel.size ?hl ?_; (case hl => have := HL3.out; omega); intro v4 w4 HR HB HG HA; obtain ⟨A4, c4, e4⟩ := row_slice HR; subst e4; have th := (HSc.out.out.after 3 (.inr (.inr (.inl rfl))) (show World.grownBy _ _ (V 3).ownBlock from HG)); have tf3 := th.2.2.2.2.2 3; have tc3 := th.2.2.2.1; clear th; have HSd := Aside0.mk (HSc.out.app 3 (.inr (.inr (.inl rfl))) _ n HR HB (show World.grownBy _ _ (V 3).ownBlock from HG) HA); clear HR HB HG HA u3)))
                    all_goals try omega
                    go_roundw
                    case rel => exact ⟨k + 1, _, _, HLT.out, by go_num, ⟨show upd (upd L 2 (L 2 ++ [sk])) 3 _ 0 = _ from HL.out.1, by show L 2 ++ [sk] = _; rw [runs_snoc, HL.out.2.1, HT.out, HPV.out], by show L 3 ++ [n] = _; rw [cnts_snoc, HL.out.2.2.1, HT.out, HNV.out], HL.out.2.2.2⟩, HSd⟩
                    case measure => have := HLT.out; simp [intOf]; omega
          · have hd : decide ((k : Int) < (ts.length : Int)) = false := decide_eq_false (by omega)
            have HL1 := Aside0.mk (show L 0 = ceilsF ts rs is rs.length ∧ L 2 = runsF ts rs is ts.length ∧ L 3 = cntsF ts rs x.b9 ts.length ∧ L 4 = [] by rw [← show k = ts.length by omega]; exact HL.out)
            clear HL
            go_wp2_with fail
            clear q11 hd hk hlt
            go_loopw [13] (fun i wq => ∃ (k : Nat) (V : Nat → Value) (L : Nat → List Int), k ≤ is.length ∧ i = .int .i64 k ∧ Aside0 (L 0 = ceilsF ts rs is rs.length ∧ L 2 = runsF ts rs is ts.length ∧ L 3 = cntsF ts rs x.b9 ts.length ∧ L 4 = isrsF is k) ∧ Aside0 (StR x AT cT AR cR AI cI ts.length rs.length is.length O w V sk L wq)) (fun i _ => is.length - (intOf i).toNat)
            case atStart => exact ⟨0, V, L, by omega, rfl, ⟨HL1.out.1, HL1.out.2.1, HL1.out.2.2.1, HL1.out.2.2.2⟩, HS0⟩
            case round =>
              clear HS0 HL1
              obtain ⟨k, V, L, hk, rfl, HL, HS0⟩ := hrel
              obtain ⟨wi, rfl⟩ : ∃ wi : World, wi = wr := ⟨_, rfl⟩
              have q16 := HS0.out.env.box.isrs
              by_cases hlt : k < is.length
              · have hd : decide ((k : Int) < (is.length : Int)) = true := decide_eq_true (by omega)
                have HLT := Aside0.mk (Nat.succ_le_of_lt hlt)
                obtain ⟨ad, A3, c3, rfl, _, h5, l5, g5⟩ := isr_f (HC.out.below HS0.out.bel).i k hlt
                obtain ⟨t, ht0⟩ : ∃ t, is.getD k z66 = t := ⟨_, rfl⟩
                rw [ht0] at h5
                have HT := Aside0.mk ht0
                clear g5 l5 ht0
                have HL4 := Aside0.mk (show (L 4).length ≤ 4398046511104 by rw [HL.out.2.2.2, isrs_len]; omega)
                have HXo := Aside0.mk HS0.out.env.box
                go_wp2_with fail
                refine start_ (n := 13) (S := fun w_ => Below wi.heap.size wi w_) (ds := [10, 12]) #[false, false, false, false, false, false, false, false, false, false, false, false, false] (by kernel_rfl) rfl rfl (drew_below wi) (fun hHeld => ?_)
                have HH := Aside0.mk hHeld
                clear hHeld
                generalize wi.drew = wv at HH ⊢
                refine pure_ (i := 0) (N := some 107) (v := ?_) (a' := ?_) #[true, false, false, false, false, false, false, false, false, false, false, false, false] rfl rfl (by kernel_rfl) (fun _ _ _ h => h) (Or.inl ⟨by rfl, ?_⟩) ?_ ?_
                rotate_left
                · intro w_
                  go_simp
                  with_reducible rfl
                rotate_left
                · simp only [Act.put, List.setIfInBounds_toArray, List.set_cons_zero, List.set_cons_succ, i64_w, i32_w]
                  rfl
                refine take_ (i := 1) (N := some 108) (v := ?_) (a' := ?_) #[true, true, false, false, false, false, false, false, false, false, false, false, false] rfl rfl (by kernel_rfl) (fun _ _ _ h => h) (Or.inl ⟨by rfl, ?_⟩) HH.out ?_ ?_
                rotate_left
                · rintro w_ s
                  obtain ⟨_, _, _, _, o4, _⟩ := (HS0.out.below s).out.cells; have q16 := (HXo.out.below s).isrs; have h5 := (s.cell (World.block_lt_of_cell? wi _ h5)).trans h5
                  go_simp
                  with_reducible rfl
                rotate_left
                · simp only [Act.put, List.setIfInBounds_toArray, List.set_cons_zero, List.set_cons_succ, i64_w, i32_w]
                  rfl
                refine pure_ (i := 2) (N := some 109) (v := ?_) (a' := ?_) #[true, true, true, false, false, false, false, false, false, false, false, false, false] rfl rfl (by kernel_rfl) (fun _ _ _ h => h) (Or.inl ⟨by rfl, ?_⟩) ?_ ?_
                rotate_left
                · intro w_
                  go_simp
                  with_reducible rfl
                rotate_left
                · simp only [Act.put, List.setIfInBounds_toArray, List.set_cons_zero, List.set_cons_succ, i64_w, i32_w]
                  rfl
                refine take_ (i := 3) (N := some 110) (v := ?_) (a' := ?_) #[true, true, true, true, false, false, false, false, false, false, false, false, false] rfl rfl (by kernel_rfl) (fun _ _ _ h => h) (Or.inl ⟨by rfl, ?_⟩) HH.out ?_ ?_
                rotate_left
                · rintro w_ s
                  obtain ⟨_, _, _, _, o4, _⟩ := (HS0.out.below s).out.cells; have q16 := (HXo.out.below s).isrs; have h5 := (s.cell (World.block_lt_of_cell? wi _ h5)).trans h5
                  go_simp
                  with_reducible rfl
                rotate_left
                · simp only [Act.put, List.setIfInBounds_toArray, List.set_cons_zero, List.set_cons_succ, i64_w, i32_w]
                  rfl
                refine pure_ (i := 4) (N := some 111) (v := ?_) (a' := ?_) #[true, true, true, true, true, false, false, false, false, false, false, false, false] rfl rfl (by kernel_rfl) (fun _ _ _ h => h) (Or.inl ⟨by rfl, ?_⟩) ?_ ?_
                rotate_left
                · intro w_
                  go_simp
                  with_reducible rfl
                rotate_left
                · simp only [Act.put, List.setIfInBounds_toArray, List.set_cons_zero, List.set_cons_succ, i64_w, i32_w]
                  rfl
                refine pure_ (i := 5) (N := some 112) (v := ?_) (a' := ?_) #[true, true, true, true, true, true, false, false, false, false, false, false, false] rfl rfl (by kernel_rfl) (fun _ _ _ h => h) (Or.inl ⟨by rfl, ?_⟩) ?_ ?_
                rotate_left
                · intro w_
                  go_simp
                  with_reducible rfl
                rotate_left
                · simp only [Act.put, List.setIfInBounds_toArray, List.set_cons_zero, List.set_cons_succ, i64_w, i32_w]
                  rfl
                refine pure_ (i := 6) (N := some 113) (v := ?_) (a' := ?_) #[true, true, true, true, true, true, true, false, false, false, false, false, false] rfl rfl (by kernel_rfl) (fun _ _ _ h => h) (Or.inl ⟨by rfl, ?_⟩) ?_ ?_
                rotate_left
                · intro w_
                  go_simp
                  with_reducible rfl
                rotate_left
                · simp only [Act.put, List.setIfInBounds_toArray, List.set_cons_zero, List.set_cons_succ, i64_w, i32_w]
                  rfl
                refine take_ (i := 7) (N := some 114) (v := ?_) (a' := ?_) #[true, true, true, true, true, true, true, true, false, false, false, false, false] rfl rfl (by kernel_rfl) (fun _ _ _ h => h) (Or.inl ⟨by rfl, ?_⟩) HH.out ?_ ?_
                rotate_left
                · rintro w_ s
                  obtain ⟨_, _, _, _, o4, _⟩ := (HS0.out.below s).out.cells; have q16 := (HXo.out.below s).isrs; have h5 := (s.cell (World.block_lt_of_cell? wi _ h5)).trans h5
                  go_simp
                  with_reducible rfl
                rotate_left
                · simp only [Act.put, List.setIfInBounds_toArray, List.set_cons_zero, List.set_cons_succ, i64_w, i32_w]
                  rfl
                refine pure_ (i := 8) (N := some 115) (v := ?_) (a' := ?_) #[true, true, true, true, true, true, true, true, true, false, false, false, false] rfl rfl (by kernel_rfl) (fun _ _ _ h => h) (Or.inl ⟨by rfl, ?_⟩) ?_ ?_
                rotate_left
                · intro w_
                  go_simp
                  with_reducible rfl
                rotate_left
                · simp only [Act.put, List.setIfInBounds_toArray, List.set_cons_zero, List.set_cons_succ, i64_w, i32_w]
                  rfl
                have HSW := Aside0.mk (HS0.out.below HH.out)
                refine one_ (i := 9) (N := some 116) #[true, true, true, true, true, true, true, true, true, true, false, false, false] rfl rfl (by kernel_rfl) (by decide) (fun K hK => ?_)
                go_simp
                refine hK.out _ _ (HH.out.alloc HH.out.size _) (fun _ => ?_)
                clear hK K
                refine last_ (i := 10) (N := some 117) #[true, true, true, true, true, true, true, true, true, true, true, false, false] rfl rfl (by kernel_rfl) (by decide) (fun K hK => ?_)
                refine Kd.R_append_step (Kd.int .i64) (w0 := w) w.heap.size (by rfl) (.tmp 108) (.tmp 116) 39 3 (.int .i64 0) 8 rfl Try.underlying39 info3 rfl (by decide) (by omega) _ (L 4) ((t.f3.length : Int)) [.int .i64 ((t.f3.length : Int))] (fun _ => True) (fun _ => False) rfl rfl rfl (fun _ h => h.elim) (fun _ _ => trivial) (HSW.out.out.row 4 (.inr (.inr (.inr rfl)))) (HSW.out.bel) (HSW.out.bel).size ?hl ?_
                (case hl => have := HL4.out; omega)
                intro v3 w3 HR3 HB3 HG3 HA3
                obtain ⟨A5, c5, e5⟩ := row_slice HR3; subst e5; have th := HSW.out.out.after 4 (.inr (.inr (.inr rfl))) HG3; have tf4 := th.2.2.2.2.2 4; have tc4 := th.2.2.2.2.1; clear th; have HSc := Aside0.mk (HSW.out.app 4 (.inr (.inr (.inr rfl))) _ (t.f3.length : Int) HR3 HB3 HG3 HA3); clear HR3 HB3 HG3 HA3
                refine hK.out _ _ ?_
                clear hK K
                refine norm_ (a' := ?_) ?_ ?_
                rotate_left
                · show Act.put _ (some 117) _ = _
                  simp only [Act.put, List.setIfInBounds_toArray, List.set_cons_zero, List.set_cons_succ, i64_w, i32_w]
                  rfl
                refine pure_ (i := 11) (N := some 118) (v := ?_) (a' := ?_) #[true, true, true, true, true, true, true, true, true, true, true, true, false] rfl rfl (by kernel_rfl) (fun _ _ _ h => h) (Or.inl ⟨by rfl, ?_⟩) ?_ ?_
                rotate_left
                · intro w_
                  go_simp
                  with_reducible rfl
                rotate_left
                · simp only [Act.put, List.setIfInBounds_toArray, List.set_cons_zero, List.set_cons_succ, i64_w, i32_w]
                  rfl
                refine last_ (i := 12) (N := none) #[true, true, true, true, true, true, true, true, true, true, true, true, true] rfl rfl (by kernel_rfl) (by decide) (fun K hK => ?_)
                go_simp
                refine hK.out _ _ ?_
                clear hK K
                refine done_ (by kernel_rfl) ?_
                clear HSW HS0 HXo HH tf4 tc4 q16 h5
                go_wp2_with fail
                go_roundw
                case rel => exact ⟨k + 1, _, upd L 4 (L 4 ++ [(t.f3.length : Int)]), HLT.out, by go_num, ⟨HL.out.1, HL.out.2.1, HL.out.2.2.1, by show L 4 ++ [(t.f3.length : Int)] = _; rw [isrs_snoc, HL.out.2.2.2, HT.out]⟩, HSc⟩
                case measure => have := HLT.out; simp [intOf]; omega
              · have hd : decide ((k : Int) < (is.length : Int)) = false := decide_eq_false (by omega)
                have HE := Aside0.mk (show k = is.length by omega)
                have HSe := Aside0.mk (show CheckSays ts rs is 0 from HS.out)
                obtain ⟨o0, o1, o2, o3, o4, _⟩ := HS0.out.out.cells
                obtain ⟨A0, c0, e0⟩ := Kd.R_slice (HS0.out.out.row 0 (.inl rfl))
                rw [e0] at o0
                have E0 := Aside0.mk e0
                obtain ⟨A2, c2, e2⟩ := Kd.R_slice (HS0.out.out.row 2 (.inr (.inl rfl)))
                rw [e2] at o2
                have E2 := Aside0.mk e2
                obtain ⟨A3, c3, e3⟩ := Kd.R_slice (HS0.out.out.row 3 (.inr (.inr (.inl rfl))))
                rw [e3] at o3
                have E3 := Aside0.mk e3
                obtain ⟨A4, c4, e4⟩ := Kd.R_slice (HS0.out.out.row 4 (.inr (.inr (.inr rfl))))
                rw [e4] at o4
                have E4 := Aside0.mk e4
                obtain ⟨z0, z1, z2, z3, z4, zf⟩ := HS0.out.env.zero.cells
                have hfin := HS0.out.fin (.slice A0 (L 0).length c0) (.int .i64 sk) (.slice A2 (L 2).length c2) (.slice A3 (L 3).length c3) (.slice A4 (L 4).length c4)
                have HF := Aside0.mk hfin
                have HPH := Aside0.mk (put5_heap HS0.out.env.zero (.slice A0 (L 0).length c0) (.int .i64 sk) (.slice A2 (L 2).length c2) (.slice A3 (L 3).length c3) (.slice A4 (L 4).length c4))
                clear hfin e0 e2 e3 e4
                go_wp2_with fail
                refine bodyPost_ret (results_ct rfl _ _ (w.heap.size + 1) 41 #[.slice A0 (L 0).length c0, .int .i64 sk, .slice A2 (L 2).length c2, .slice A3 (L 3).length c3, .slice A4 (L 4).length c4] (0, 0) _ rfl HPH.out Try.underlying41 rfl (by kernel_rfl)) rfl ?_
                exact ⟨HF.out.1, V, sk, L, 0, by rw [E0.out, E2.out, E3.out, E4.out]; rfl, HF.out.2, HSe.out, .inr ⟨rfl, HSK.out.symm, HL.out.1, HL.out.2.1, HL.out.2.2.1, by rw [HL.out.2.2.2, HE.out]⟩⟩
  · have hvb : (v != 0) = true := by simp [hv]
    have HV := Aside0.mk hv
    obtain ⟨z0, z1, z2, z3, z4, zf⟩ := HZ.out.cells
    have HPH := Aside0.mk (put5_heap HZ.out (.slice none 0 0) (.int .i64 0) (.slice none 0 0) (.slice none 0 0) (.slice none 0 0))
    clear hv
    go_wp2_with fail
    refine bodyPost_ret (results_ct rfl _ _ (w.heap.size + 1) 41 #[.slice none 0 0, .int .i64 0, .slice none 0 0, .slice none 0 0, .slice none 0 0] (0, 0) _ rfl HPH.out Try.underlying41 rfl (by kernel_rfl)) rfl ?_
    exact ⟨put5_below HB.out (by omega) _ _ _ _ _, fun _ => .slice none 0 0, 0, fun _ => [], v, rfl, ⟨fun i _ => Kd.R_nil _ _ _ _ _, fun i j _ _ _ g hg => by simp [Value.ownBlock] at hg⟩, HS.out, .inl ⟨HV.out, rfl, fun _ => rfl⟩⟩
end Go.Proofs.Ytflkbheginhfiaa.XA
/- what ceil and the document answer, as functions: the contracts of both sides in one form. -/
namespace Go.Proofs.Ytflkbheginhfiaa.XA
set_option linter.unusedVariables false
set_option linter.unusedSimpArgs false
open Go.RowKit Go.WideMaps Go.Maps Go.Proofs.YtflkbheginhfiaaW.PrintWords Go.Proofs.YtflkbheginhfiaaW.PrintLast Go.Proofs.YtflkbheginhfiaaW.PrintMore
open Classical in
noncomputable def checkV (ts : List S64) (rs : List S73) (is : List S66) : Int := if ¬ RefsOk ts rs is then 80 else if ¬ Ends rs then 81 else if ¬ InnerOk ts rs is then 82 else 0
theorem says_v {ts : List S64} {rs : List S73} {is : List S66} {v : Int} (h : CheckSays ts rs is v) : v = checkV ts rs is := by
  unfold checkV
  rcases h with ⟨rfl, h⟩ | ⟨rfl, h, h1⟩ | ⟨rfl, h, h1, h2⟩ | ⟨rfl, h, h1, h2⟩ <;> simp [*]
theorem v_says (ts : List S64) (rs : List S73) (is : List S66) : CheckSays ts rs is (checkV ts rs is) := by
  unfold checkV CheckSays
  split
  · exact .inl ⟨rfl, by assumption⟩
  · rename_i h
    have h := Classical.not_not.mp h
    split
    · exact .inr (.inl ⟨rfl, h, by assumption⟩)
    · rename_i h1
      have h1 := Classical.not_not.mp h1
      split
      · exact .inr (.inr (.inl ⟨rfl, h, h1, by assumption⟩))
      · rename_i h2
        exact .inr (.inr (.inr ⟨rfl, h, h1, Classical.not_not.mp h2⟩))
noncomputable def groupV (ts : List S64) (rs : List S73) (is : List S66) (r : Int) : List Int × Int := if checkV ts rs is ≠ 0 then ([], checkV ts rs is) else if r < 0 ∨ (rs.length : Int) ≤ r then ([], 2) else (groupN rs r.toNat rs.length, 0)
theorem group_v {ts : List S64} {rs : List S73} {is : List S66} {r : Int} {gl : List Int} {er : Int} (h : GroupIs ts rs is r gl er) : (gl, er) = groupV ts rs is r := by
  unfold groupV
  rcases h with ⟨h, h1, rfl⟩ | ⟨h, h1, rfl, rfl⟩ | ⟨h, q, rfl, h1, rfl, rfl⟩
  · rw [← says_v h, if_pos h1]
  · rw [← says_v h, if_neg (by simp), if_pos h1]
  · rw [← says_v h, if_neg (by simp), if_neg (by omega)]
    rfl
noncomputable def usersV (ts : List S64) (rs : List S73) (is : List S66) (r : Int) : List Int × List Int × Int := if checkV ts rs is ≠ 0 then ([], [], checkV ts rs is) else if r < 0 ∨ (rs.length : Int) ≤ r then ([], [], 2) else (tuL rs ts r.toNat ts.length, iuL rs is r.toNat is.length, 0)
theorem users_v {ts : List S64} {rs : List S73} {is : List S66} {r : Int} {tl il : List Int} {er : Int} (h : UsersIs ts rs is r tl il er) : (tl, il, er) = usersV ts rs is r := by
  unfold usersV
  rcases h with ⟨h, h1, rfl, rfl⟩ | ⟨h, h1, rfl, rfl, rfl⟩ | ⟨h, q, rfl, h1, rfl, rfl, rfl⟩
  · rw [← says_v h, if_pos h1]
  · rw [← says_v h, if_neg (by simp), if_pos h1]
  · rw [← says_v h, if_neg (by simp), if_neg (by omega), (users_tu ts rs is q).1, (users_tu ts rs is q).2]
    rfl
noncomputable def blocksV (ts : List S64) (rs : List S73) (is : List S66) (lo hi : Int) : List Int × Int :=
  if checkV ts rs is ≠ 0 then ([], checkV ts rs is) else if lo < 0 ∨ (ts.length : Int) ≤ lo ∨ hi < 0 ∨ (ts.length : Int) ≤ hi then ([], 2)
  else (if (ts.getD hi.toNat z64).f1 ≤ (ts.getD lo.toNat z64).f1 then [] else blkF ts rs is (ts.getD hi.toNat z64).f1 (ts.getD lo.toNat z64).f5, 0)
theorem blocks_v {ts : List S64} {rs : List S73} {is : List S66} {lo hi : Int} {bl : List Int} {er : Int} (h : BlocksIs ts rs is lo hi bl er) : (bl, er) = blocksV ts rs is lo hi := by
  unfold blocksV
  rcases h with ⟨h, h1, rfl⟩ | ⟨h, h1, rfl, rfl⟩ | ⟨h, l, g, rfl, rfl, h1, h2, rfl, rfl⟩
  · rw [← says_v h, if_pos h1]
  · rw [← says_v h, if_neg (by simp), if_pos h1]
  · rw [← says_v h, if_neg (show ¬ ((0 : Int) ≠ 0) from fun e => e rfl), if_neg (show ¬((l : Int) < 0 ∨ (ts.length : Int) ≤ l ∨ (g : Int) < 0 ∨ (ts.length : Int) ≤ g) by omega)]
    rfl
structure Ceil where
  l0 : List Int
  s : Int
  l2 : List Int
  l3 : List Int
  l4 : List Int
  er : Int
noncomputable def reckonV (ts : List S64) (rs : List S73) (is : List S66) (b : Bool) : Ceil := if checkV ts rs is ≠ 0 then ⟨[], 0, [], [], [], checkV ts rs is⟩ else ⟨ceilsF ts rs is rs.length, schF ts ts.length, runsF ts rs is ts.length, cntsF ts rs b ts.length, isrsF is is.length, 0⟩
theorem reckon_v {ts : List S64} {rs : List S73} {is : List S66} {b : Bool} {sch : Int} {L : Nat → List Int} {er : Int} (h : ReckonIs ts rs is b sch L er) : (⟨L 0, sch, L 2, L 3, L 4, er⟩ : Ceil) = reckonV ts rs is b := by
  unfold reckonV
  obtain ⟨h, ⟨h1, rfl, h2⟩ | ⟨rfl, rfl, h1, h2, h3, h4⟩⟩ := h
  · rw [← says_v h, if_pos h1, h2 0, h2 2, h2 3, h2 4]
  · rw [← says_v h, if_neg (by simp), h1, h2, h3, h4]
/-- a list that may be read -/
def Rd (w : World) (v : Value) (l : List Int) : Prop := ∃ A c, v = .slice A l.length c ∧ l.length ≤ c ∧ (Kd.int .i64).C w A l.length l
theorem Rd.of {w : World} {b : Nat} {ok : Nat → Prop} {v : Value} {l : List Int} (h : (Kd.int .i64).R 3 w b ok v l) : Rd w v l := Kd.R_reads h
theorem Rd.below {w w1 : World} {v : Value} {l : List Int} (h : Rd w v l) (hB : Below w.heap.size w w1) : Rd w1 v l := by
  obtain ⟨A, c, e, hc, hC⟩ := h
  exact ⟨A, c, e, hc, Kd.C_below hC hB⟩
section
variable (x : CV) (AT : Option Addr) (cT : Nat) (AR : Option Addr) (cR : Nat) (AI : Option Addr) (cI : Nat) (ts : List S64) (rs : List S73) (is : List S66)
/-- the configuration, and that it is not greater than what may be handed in -/
structure Good (w : World) : Prop where
  cfg : Cfg w AT cT AR cR AI cI ts rs is
  r : rs.length ≤ 4398046511104
  t : ts.length ≤ 4398046511104
  i : is.length ≤ 4398046511104
theorem Good.below {w w1 : World} (h : Good AT cT AR cR AI cI ts rs is w) (hB : Below w.heap.size w w1) : Good AT cT AR cR AI cI ts rs is w1 := ⟨h.cfg.below hB, h.r, h.t, h.i⟩
theorem check_c (w : World) (g : Good AT cT AR cR AI cI ts rs is w) : Calls Try.prog 11 #[.agg #[.string x.s0, .string x.s1, .bool x.b2, .bool x.b3, .bool x.b4, .bool x.b5, .bool x.b6, .bool x.b7, .bool x.b8, .bool x.b9, .slice x.A10 x.n10 x.c10, .slice AT ts.length cT, .slice AR rs.length cR, .slice x.A13 x.n13 x.c13, .slice x.A14 x.n14 x.c14, .slice x.A15 x.n15 x.c15, .slice AI is.length cI, .slice x.A17 x.n17 x.c17]] w fun e w' => e = .returned (.int .i64 (checkV ts rs is)) ∧ Below w.heap.size w w' := by
  refine (check_calls x AT cT AR cR AI cI ts rs is w g.cfg g.r g.t g.i).mono ?_
  rintro e w' ⟨hb, v, rfl, h⟩
  exact ⟨by rw [says_v h], hb⟩
theorem check_r (w : World) (g : Good AT cT AR cR AI cI ts rs is w) : Calls Try.prog 14 #[.agg #[.string x.s0, .string x.s1, .bool x.b2, .bool x.b3, .bool x.b4, .bool x.b5, .bool x.b6, .bool x.b7, .bool x.b8, .bool x.b9, .slice x.A10 x.n10 x.c10, .slice AT ts.length cT, .slice AR rs.length cR, .slice x.A13 x.n13 x.c13, .slice x.A14 x.n14 x.c14, .slice x.A15 x.n15 x.c15, .slice AI is.length cI, .slice x.A17 x.n17 x.c17]] w fun e w' => e = .returned (.int .i64 (checkV ts rs is)) ∧ Below w.heap.size w w' := by
  refine (checkR_calls x AT cT AR cR AI cI ts rs is w g.cfg g.r g.t g.i).mono ?_
  rintro e w' ⟨hb, v, rfl, h⟩
  exact ⟨by rw [says_v h], hb⟩
theorem group_c (r : Int) (w : World) (g : Good AT cT AR cR AI cI ts rs is w) : Calls Try.prog 18 #[.agg #[.string x.s0, .string x.s1, .bool x.b2, .bool x.b3, .bool x.b4, .bool x.b5, .bool x.b6, .bool x.b7, .bool x.b8, .bool x.b9, .slice x.A10 x.n10 x.c10, .slice AT ts.length cT, .slice AR rs.length cR, .slice x.A13 x.n13 x.c13, .slice x.A14 x.n14 x.c14, .slice x.A15 x.n15 x.c15, .slice AI is.length cI, .slice x.A17 x.n17 x.c17], .int .i64 r] w fun e w' => ∃ v, e = .returned (.tuple #[v, .int .i64 (groupV ts rs is r).2]) ∧ Rd w' v (groupV ts rs is r).1 ∧ Below w.heap.size w w' := by
  refine (group_calls x AT cT AR cR AI cI ts rs is r w g.cfg g.r g.t g.i).mono ?_
  rintro e w' ⟨hb, v, gl, er, rfl, hr, h⟩
  rw [← group_v h]
  exact ⟨v, rfl, .of hr, hb⟩
theorem group_r (r : Int) (w : World) (g : Good AT cT AR cR AI cI ts rs is w) : Calls Try.prog 19 #[.agg #[.string x.s0, .string x.s1, .bool x.b2, .bool x.b3, .bool x.b4, .bool x.b5, .bool x.b6, .bool x.b7, .bool x.b8, .bool x.b9, .slice x.A10 x.n10 x.c10, .slice AT ts.length cT, .slice AR rs.length cR, .slice x.A13 x.n13 x.c13, .slice x.A14 x.n14 x.c14, .slice x.A15 x.n15 x.c15, .slice AI is.length cI, .slice x.A17 x.n17 x.c17], .int .i64 r] w fun e w' => ∃ v, e = .returned (.tuple #[v, .int .i64 (groupV ts rs is r).2]) ∧ Rd w' v (groupV ts rs is r).1 ∧ Below w.heap.size w w' := by
  refine (groupR_calls x AT cT AR cR AI cI ts rs is r w g.cfg g.r g.t g.i).mono ?_
  rintro e w' ⟨hb, v, gl, er, rfl, hr, h⟩
  rw [← group_v h]
  exact ⟨v, rfl, .of hr, hb⟩
theorem users_c (r : Int) (w : World) (g : Good AT cT AR cR AI cI ts rs is w) : Calls Try.prog 21 #[.agg #[.string x.s0, .string x.s1, .bool x.b2, .bool x.b3, .bool x.b4, .bool x.b5, .bool x.b6, .bool x.b7, .bool x.b8, .bool x.b9, .slice x.A10 x.n10 x.c10, .slice AT ts.length cT, .slice AR rs.length cR, .slice x.A13 x.n13 x.c13, .slice x.A14 x.n14 x.c14, .slice x.A15 x.n15 x.c15, .slice AI is.length cI, .slice x.A17 x.n17 x.c17], .int .i64 r] w fun e w' => ∃ v u, e = .returned (.tuple #[v, u, .int .i64 (usersV ts rs is r).2.2]) ∧ Rd w' v (usersV ts rs is r).1 ∧ Rd w' u (usersV ts rs is r).2.1 ∧ Below w.heap.size w w' := by
  refine (users_calls x AT cT AR cR AI cI ts rs is r w g.cfg g.r g.t g.i).mono ?_
  rintro e w' ⟨hb, v, u, tl, il, er, rfl, hr, hr2, _, h⟩
  rw [← users_v h]
  exact ⟨v, u, rfl, .of hr, .of hr2, hb⟩
theorem blocks_c (lo hi : Int) (w : World) (g : Good AT cT AR cR AI cI ts rs is w) : Calls Try.prog 23 #[.agg #[.string x.s0, .string x.s1, .bool x.b2, .bool x.b3, .bool x.b4, .bool x.b5, .bool x.b6, .bool x.b7, .bool x.b8, .bool x.b9, .slice x.A10 x.n10 x.c10, .slice AT ts.length cT, .slice AR rs.length cR, .slice x.A13 x.n13 x.c13, .slice x.A14 x.n14 x.c14, .slice x.A15 x.n15 x.c15, .slice AI is.length cI, .slice x.A17 x.n17 x.c17], .int .i64 lo, .int .i64 hi] w fun e w' => ∃ v, e = .returned (.tuple #[v, .int .i64 (blocksV ts rs is lo hi).2]) ∧ Rd w' v (blocksV ts rs is lo hi).1 ∧ Below w.heap.size w w' := by
  refine (blocks_calls x AT cT AR cR AI cI ts rs is lo hi w g.cfg g.r g.t g.i).mono ?_
  rintro e w' ⟨hb, v, gl, er, rfl, hr, h⟩
  rw [← blocks_v h]
  exact ⟨v, rfl, .of hr, hb⟩
theorem reckon_c (w : World) (g : Good AT cT AR cR AI cI ts rs is w) : Calls Try.prog 12 #[.agg #[.string x.s0, .string x.s1, .bool x.b2, .bool x.b3, .bool x.b4, .bool x.b5, .bool x.b6, .bool x.b7, .bool x.b8, .bool x.b9, .slice x.A10 x.n10 x.c10, .slice AT ts.length cT, .slice AR rs.length cR, .slice x.A13 x.n13 x.c13, .slice x.A14 x.n14 x.c14, .slice x.A15 x.n15 x.c15, .slice AI is.length cI, .slice x.A17 x.n17 x.c17]] w fun e w' => ∃ v0 v2 v3 v4, e = .returned (.tuple #[.agg #[v0, .int .i64 (reckonV ts rs is x.b9).s, v2, v3, v4], .int .i64 (reckonV ts rs is x.b9).er]) ∧ Rd w' v0 (reckonV ts rs is x.b9).l0 ∧ Rd w' v2 (reckonV ts rs is x.b9).l2 ∧ Rd w' v3 (reckonV ts rs is x.b9).l3 ∧ Rd w' v4 (reckonV ts rs is x.b9).l4 ∧ Below w.heap.size w w' := by
  refine (reckon_calls x AT cT AR cR AI cI ts rs is w g.cfg g.r g.t g.i).mono ?_
  rintro e w' ⟨hb, V, sch, L, er, rfl, hr, h⟩
  rw [← reckon_v h]
  exact ⟨V 0, V 2, V 3, V 4, rfl, .of (hr.row 0 (.inl rfl)), .of (hr.row 2 (.inr (.inl rfl))), .of (hr.row 3 (.inr (.inr (.inl rfl)))), .of (hr.row 4 (.inr (.inr (.inr rfl)))), hb⟩
theorem reckon_r (w : World) (g : Good AT cT AR cR AI cI ts rs is w) : Calls Try.prog 13 #[.agg #[.string x.s0, .string x.s1, .bool x.b2, .bool x.b3, .bool x.b4, .bool x.b5, .bool x.b6, .bool x.b7, .bool x.b8, .bool x.b9, .slice x.A10 x.n10 x.c10, .slice AT ts.length cT, .slice AR rs.length cR, .slice x.A13 x.n13 x.c13, .slice x.A14 x.n14 x.c14, .slice x.A15 x.n15 x.c15, .slice AI is.length cI, .slice x.A17 x.n17 x.c17]] w fun e w' => ∃ v0 v2 v3 v4, e = .returned (.tuple #[.agg #[v0, .int .i64 (reckonV ts rs is x.b9).s, v2, v3, v4], .int .i64 (reckonV ts rs is x.b9).er]) ∧ Rd w' v0 (reckonV ts rs is x.b9).l0 ∧ Rd w' v2 (reckonV ts rs is x.b9).l2 ∧ Rd w' v3 (reckonV ts rs is x.b9).l3 ∧ Rd w' v4 (reckonV ts rs is x.b9).l4 ∧ Below w.heap.size w w' := by
  refine (reckonR_calls x AT cT AR cR AI cI ts rs is w g.cfg g.r g.t g.i).mono ?_
  rintro e w' ⟨hb, V, sch, L, er, rfl, hr, h⟩
  rw [← reckon_v h]
  exact ⟨V 0, V 2, V 3, V 4, rfl, .of (hr.row 0 (.inl rfl)), .of (hr.row 2 (.inr (.inl rfl))), .of (hr.row 3 (.inr (.inr (.inl rfl)))), .of (hr.row 4 (.inr (.inr (.inr rfl)))), hb⟩
theorem ints_c (v u : Value) (l : List Int) (w : World) (h0 : Rd w v l) (h1 : Rd w u l) : Calls Try.prog 20 #[v, u] w fun e w' => e = .returned (.bool true) ∧ Below w.heap.size w w' := by
  obtain ⟨A, c, rfl, _, hC⟩ := h0
  obtain ⟨B, d, rfl, _, hD⟩ := h1
  exact ints_true A B c d l w hC hD
theorem same_c (v0 v2 v3 v4 u0 u2 u3 u4 : Value) (l0 l2 l3 l4 : List Int) (s : Int) (w : World) (h0 : Rd w v0 l0) (h2 : Rd w v2 l2) (h3 : Rd w v3 l3) (h4 : Rd w v4 l4) (g0 : Rd w u0 l0) (g2 : Rd w u2 l2) (g3 : Rd w u3 l3) (g4 : Rd w u4 l4) : Calls Try.prog 15 #[.agg #[v0, .int .i64 s, v2, v3, v4], .agg #[u0, .int .i64 s, u2, u3, u4]] w fun e w' => e = .returned (.bool true) ∧ Below w.heap.size w w' := by
  obtain ⟨A0, c0, rfl, _, C0⟩ := h0
  obtain ⟨A2, c2, rfl, _, C2⟩ := h2
  obtain ⟨A3, c3, rfl, _, C3⟩ := h3
  obtain ⟨A4, c4, rfl, _, C4⟩ := h4
  obtain ⟨B0, d0, rfl, _, D0⟩ := g0
  obtain ⟨B2, d2, rfl, _, D2⟩ := g2
  obtain ⟨B3, d3, rfl, _, D3⟩ := g3
  obtain ⟨B4, d4, rfl, _, D4⟩ := g4
  exact same_true A0 A2 A3 A4 B0 B2 B3 B4 c0 c2 c3 c4 d0 d2 d3 d4 l0 l2 l3 l4 s w C0 C2 C3 C4 D0 D2 D3 D4
end
end Go.Proofs.Ytflkbheginhfiaa.XA
