/- CeilGrows: the walk. -/
import Derived.Test.YtflkbheginhfiaaHK
namespace Go.Proofs.Ytflkbheginhfiaa.XA
set_option linter.unusedVariables false
set_option linter.unusedSimpArgs false
open Go.RowKit Go.WideMaps Go.Maps Go.Proofs.YtflkbheginhfiaaW.PrintWords Go.Proofs.YtflkbheginhfiaaW.PrintLast Go.Proofs.YtflkbheginhfiaaW.PrintMore
theorem reckonV_er2 (ts : List S64) (rs : List S73) (is : List S66) (b : Bool) : (reckonV ts rs is b).er = checkV ts rs is := by
  unfold reckonV
  split <;> simp_all
set_option maxRecDepth 1000000 in
set_option maxHeartbeats 4000000 in
theorem grows_calls (x : CV) (AT : Option Addr) (cT : Nat) (AR : Option Addr) (cR : Nat) (AI : Option Addr) (cI : Nat) (ts : List S64) (rs : List S73) (is : List S66) (task m : Int) (hm0 : 0 ≤ m) (hm1 : m ≤ 255) (w : World) (g : Good AT cT AR cR AI cI ts rs is w) (hz : Tight ts is) (hlo : ∀ k, k < ts.length → -9223372036854775808 ≤ (ts.getD k z64).f1) : Calls Try.prog 7 #[.agg #[.string x.s0, .string x.s1, .bool x.b2, .bool x.b3, .bool x.b4, .bool x.b5, .bool x.b6, .bool x.b7, .bool x.b8, .bool x.b9, .slice x.A10 x.n10 x.c10, .slice AT ts.length cT, .slice AR rs.length cR, .slice x.A13 x.n13 x.c13, .slice x.A14 x.n14 x.c14, .slice x.A15 x.n15 x.c15, .slice AI is.length cI, .slice x.A17 x.n17 x.c17], .int .i64 task, .int .u8 m] w fun e w' => e = .returned (.bool true) ∧ Below w.heap.size w w' := by
  have HI := Aside0.mk (in_made x AT cT AR cR AI cI ts rs is w g)
  have HZ := Aside0.mk hz
  have HLO := Aside0.mk hlo
  have htz := g.t
  have hrz := g.r
  have hiz := g.i
  clear g hz hlo
  go_enter Try.func7, Try.ntmps7
  go_wp2_with (first | ((with_reducible refine gate_dst (N := 18) rfl ?_); refine load36 HI.out.box rfl (.tmp 3) rfl rfl ?_))
  generalize w.alloc (.cells #[.string x.s0, .string x.s1, .bool x.b2, .bool x.b3, .bool x.b4, .bool x.b5, .bool x.b6, .bool x.b7, .bool x.b8, .bool x.b9, .slice x.A10 x.n10 x.c10, .slice AT ts.length cT, .slice AR rs.length cR, .slice x.A13 x.n13 x.c13, .slice x.A14 x.n14 x.c14, .slice x.A15 x.n15 x.c15, .slice AI is.length cI, .slice x.A17 x.n17 x.c17] 36) = w0 at *
  refine (reckon_c x AT cT AR cR AI cI ts rs is w0 HI.out.good).mono ?_
  have HER := Aside0.mk (reckonV_er2 ts rs is x.b9)
  rintro e w1 ⟨v0, v2, v3, v4, rfl, r0, r2, r3, r4, B1⟩
  obtain ⟨R, hR⟩ : ∃ R, reckonV ts rs is x.b9 = R := ⟨_, rfl⟩
  rw [hR] at HER r0 r2 r3 r4 ⊢
  have HRE := Aside0.mk hR
  clear hR
  obtain ⟨A0, c0, e0, _, hC0⟩ := r0
  obtain ⟨A2, c2, e2, _, hC2⟩ := r2
  obtain ⟨A3, c3, e3, _, _⟩ := r3
  obtain ⟨A4, c4, e4, _, _⟩ := r4
  subst e0 e2 e3 e4
  have hbx : Below w1.heap.size w1 (w1.alloc (.cells #[.slice A0 R.l0.length c0, .int .i64 R.s, .slice A2 R.l2.length c2, .slice A3 R.l3.length c3, .slice A4 R.l4.length c4] 41)) := (Below.refl _ _).alloc (Nat.le_refl _) _
  have H2 := Aside0.mk ((HI.out.below x AT cT AR cR AI cI ts rs is B1).below x AT cT AR cR AI cI ts rs is hbx)
  have HP2 := Aside0.mk (heap_alloc_new w1 (.cells #[.slice A0 R.l0.length c0, .int .i64 R.s, .slice A2 R.l2.length c2, .slice A3 R.l3.length c3, .slice A4 R.l4.length c4] 41))
  have HC2 := Aside0.mk (And.intro (Kd.C_below hC0 hbx) (Kd.C_below hC2 hbx))
  clear hC0 hC2 HI B1 hbx
  by_cases he : R.er = 0
  · have hb : (R.er != 0) = false := by simp [he]
    have HE := Aside0.mk he
    clear he
    by_cases h0 : task < 0
    · as_aux_lemma =>
        have hd : decide (task < 0) = true := decide_eq_true h0
        go_wp2_with fail
        refine (num_calls _ _).mono ?_
        rintro e w' ⟨rfl, rfl⟩
        go_wp2_with fail
        refine (alive_calls _).mono ?_
        rintro e wb ⟨rfl, Bb⟩
        go_wp2_with fail
        go_ret
        exact ⟨rfl, H2.out.bel.trans (Bb.mono H2.out.bel.size)⟩
    · obtain ⟨k, rfl⟩ : ∃ k : Nat, task = k := ⟨task.toNat, by omega⟩
      have hd : decide ((k : Int) < 0) = false := decide_eq_false h0
      have q11 := H2.out.box.tasks
      by_cases hlt : k < ts.length
      · have hd2 : decide ((ts.length : Int) ≤ (k : Int)) = false := decide_eq_false (by omega)
        obtain ⟨ad, A5, c5, eA, h1, _, _, _⟩ := task_g H2.out.good.cfg.t k hlt
        subst eA
        obtain ⟨f, hf⟩ : ∃ f, (ts.getD k z64).f1 = f := ⟨_, rfl⟩
        have hlo := HLO.out k hlt
        rw [hf] at h1 hlo
        have HFF := Aside0.mk hf
        clear hf
        by_cases hp : f ≤ 1073741824
        · as_aux_lemma =>
            have hd3 : decide (1073741824 < f) = false := decide_eq_false (by omega)
            go_wp2_with fail
            refine (num_calls _ _).mono ?_
            rintro e w' ⟨rfl, rfl⟩
            go_wp2_with (first | ((with_reducible refine gate_dst (N := 46) rfl ?_); refine load36 H2.out.box rfl (.tmp 3) rfl rfl ?_))
            have hdd : decide ((k : Int) < (ts.length : Int)) = true := decide_eq_true (by omega)
            have hw1 : IntKind.i64.wrap m = m := IntWalk.i64_in _ (by omega)
            have hw2 : IntKind.i64.wrap (f + m) = f + m := IntWalk.i64_in _ (by omega)
            clear h1 hd hd2 hd3 hb q11
            generalize w1.alloc (.cells #[.slice A0 R.l0.length c0, .int .i64 R.s, .slice A2 R.l2.length c2, .slice A3 R.l3.length c3, .slice A4 R.l4.length c4] 41) = w2 at *
            generalize w1.heap.size = P at *
            refine (copy_calls x (some ad) cT AR cR AI cI ts rs is w2 H2.out.good HZ.out.tb HZ.out.ib HZ.out.t HZ.out.i).mono ?_
            rintro e w3 ⟨B3, AT2, dT, AR2, dR, AI2, dI, rfl, rt, rr, ri⟩
            obtain ⟨gb, cap, ev, hgb, hgs, _⟩ := Kd.R_form rt (by rw [List.length_map]; omega)
            rw [List.length_map] at ev
            injection ev with ea _ ec
            subst ea ec
            have hbd : Below w3.heap.size w3 (w3.alloc (.cells (cpArr x.b9 (.slice (some ⟨gb, 0, none⟩) ts.length dT) (.slice AR2 rs.length dR) (.slice AI2 is.length dI)) 36)) := (Below.refl _ _).alloc (Nat.le_refl _) _
            have HB4 := Aside0.mk (show BoxAt (w3.alloc (.cells (cpArr x.b9 (.slice (some ⟨gb, 0, none⟩) ts.length dT) (.slice AR2 rs.length dR) (.slice AI2 is.length dI)) 36)) w3.heap.size (cpCV x.b9) (some ⟨gb, 0, none⟩) dT AR2 dR AI2 dI ts.length rs.length is.length from heap_alloc_new w3 _)
            have HRR := Aside0.mk (And.intro (Kd.R_below rt hbd) (And.intro (Kd.R_below rr hbd) (Kd.R_below ri hbd)))
            have HBB := Aside0.mk (B3.trans (hbd.mono B3.size))
            have HGB := Aside0.mk (And.intro hgb hgs)
            clear B3 rt rr ri hbd hgb hgs
            unfold cpArr at HB4 HRR HBB ⊢
            go_wp2_with fail
            generalize w3.alloc (.cells #[.string ⟨#[]⟩, .string ⟨#[]⟩, .bool false, .bool false, .bool false, .bool false, .bool false, .bool false, .bool false, .bool x.b9, .slice none 0 0, .slice (some ⟨gb, 0, none⟩) ts.length dT, .slice AR2 rs.length dR, .slice none 0 0, .slice none 0 0, .slice none 0 0, .slice AI2 is.length dI, .slice none 0 0] 36) = w4 at *
            generalize w3.heap.size = D at *
            refine start_ (n := 15) (S := fun w_ => Below w4.heap.size w4 w_) (ds := [14]) #[false, false, false, false, false, false, false, false, false, false, false, false, false, false, false] (by kernel_rfl) rfl rfl (drew_below w4) (fun hHeld => ?_)
            have HH := Aside0.mk hHeld
            clear hHeld
            generalize w4.drew = wv at HH ⊢
            refine pure_ (i := 0) (N := some 48) (v := ?_) (a' := ?_) #[true, false, false, false, false, false, false, false, false, false, false, false, false, false, false] rfl rfl (by kernel_rfl) (fun _ _ _ h => h) (Or.inl ⟨by rfl, ?_⟩) ?_ ?_
            rotate_left
            · intro w_
              go_simp
              with_reducible rfl
            rotate_left
            · simp only [Act.put, List.setIfInBounds_toArray, List.set_cons_zero, List.set_cons_succ, i64_w, i32_w]
              rfl
            refine take_ (i := 1) (N := some 49) (v := ?_) (a' := ?_) #[true, true, false, false, false, false, false, false, false, false, false, false, false, false, false] rfl rfl (by kernel_rfl) (fun _ _ _ h => h) (Or.inl ⟨by rfl, ?_⟩) HH.out ?_ ?_
            rotate_left
            · rintro w_ s
              have p11 := (HB4.out.below s).tasks; have yc := bump_cell (Kd.R_below HRR.out.1 s) k (by omega); have HFG := HFF.out; rw [gT, show (cpT (ts.getD k z64)).f1 = f from HFF.out] at yc
              go_simp
              with_reducible rfl
            rotate_left
            · simp only [Act.put, List.setIfInBounds_toArray, List.set_cons_zero, List.set_cons_succ, i64_w, i32_w]
              rfl
            refine pure_ (i := 2) (N := some 50) (v := ?_) (a' := ?_) #[true, true, true, false, false, false, false, false, false, false, false, false, false, false, false] rfl rfl (by kernel_rfl) (fun _ _ _ h => h) (Or.inl ⟨by rfl, ?_⟩) ?_ ?_
            rotate_left
            · intro w_
              go_simp
              with_reducible rfl
            rotate_left
            · simp only [Act.put, List.setIfInBounds_toArray, List.set_cons_zero, List.set_cons_succ, i64_w, i32_w]
              rfl
            refine pure_ (i := 3) (N := some 51) (v := ?_) (a' := ?_) #[true, true, true, true, false, false, false, false, false, false, false, false, false, false, false] rfl rfl (by kernel_rfl) (fun _ _ _ h => h) (Or.inl ⟨by rfl, ?_⟩) ?_ ?_
            rotate_left
            · intro w_
              go_simp
              with_reducible rfl
            rotate_left
            · simp only [Act.put, List.setIfInBounds_toArray, List.set_cons_zero, List.set_cons_succ, i64_w, i32_w]
              rfl
            refine take_ (i := 4) (N := some 52) (v := ?_) (a' := ?_) #[true, true, true, true, true, false, false, false, false, false, false, false, false, false, false] rfl rfl (by kernel_rfl) (fun _ _ _ h => h) (Or.inl ⟨by rfl, ?_⟩) HH.out ?_ ?_
            rotate_left
            · rintro w_ s
              have p11 := (HB4.out.below s).tasks; have yc := bump_cell (Kd.R_below HRR.out.1 s) k (by omega); have HFG := HFF.out; rw [gT, show (cpT (ts.getD k z64)).f1 = f from HFF.out] at yc
              go_simp
              with_reducible rfl
            rotate_left
            · simp only [Act.put, List.setIfInBounds_toArray, List.set_cons_zero, List.set_cons_succ, i64_w, i32_w]
              rfl
            refine pure_ (i := 5) (N := some 53) (v := ?_) (a' := ?_) #[true, true, true, true, true, true, false, false, false, false, false, false, false, false, false] rfl rfl (by kernel_rfl) (fun _ _ _ h => h) (Or.inl ⟨by rfl, ?_⟩) ?_ ?_
            rotate_left
            · intro w_
              go_simp
              with_reducible rfl
            rotate_left
            · simp only [Act.put, List.setIfInBounds_toArray, List.set_cons_zero, List.set_cons_succ, i64_w, i32_w]
              rfl
            refine pure_ (i := 6) (N := some 54) (v := ?_) (a' := ?_) #[true, true, true, true, true, true, true, false, false, false, false, false, false, false, false] rfl rfl (by kernel_rfl) (fun _ _ _ h => h) (Or.inl ⟨by rfl, ?_⟩) ?_ ?_
            rotate_left
            · intro w_
              go_simp
              with_reducible rfl
            rotate_left
            · simp only [Act.put, List.setIfInBounds_toArray, List.set_cons_zero, List.set_cons_succ, i64_w, i32_w]
              rfl
            refine pure_ (i := 7) (N := some 55) (v := ?_) (a' := ?_) #[true, true, true, true, true, true, true, true, false, false, false, false, false, false, false] rfl rfl (by kernel_rfl) (fun _ _ _ h => h) (Or.inl ⟨by rfl, ?_⟩) ?_ ?_
            rotate_left
            · intro w_
              go_simp
              with_reducible rfl
            rotate_left
            · simp only [Act.put, List.setIfInBounds_toArray, List.set_cons_zero, List.set_cons_succ, i64_w, i32_w]
              rfl
            refine take_ (i := 8) (N := some 56) (v := ?_) (a' := ?_) #[true, true, true, true, true, true, true, true, true, false, false, false, false, false, false] rfl rfl (by kernel_rfl) (fun _ _ _ h => h) (Or.inl ⟨by rfl, ?_⟩) HH.out ?_ ?_
            rotate_left
            · rintro w_ s
              have p11 := (HB4.out.below s).tasks; have yc := bump_cell (Kd.R_below HRR.out.1 s) k (by omega); have HFG := HFF.out; rw [gT, show (cpT (ts.getD k z64)).f1 = f from HFF.out] at yc
              go_simp
              with_reducible rfl
            rotate_left
            · simp only [Act.put, List.setIfInBounds_toArray, List.set_cons_zero, List.set_cons_succ, i64_w, i32_w]
              rfl
            refine pure_ (i := 9) (N := some 57) (v := ?_) (a' := ?_) #[true, true, true, true, true, true, true, true, true, true, false, false, false, false, false] rfl rfl (by kernel_rfl) (fun _ _ _ h => h) (Or.inl ⟨by rfl, ?_⟩) ?_ ?_
            rotate_left
            · intro w_
              go_simp
              with_reducible rfl
            rotate_left
            · simp only [Act.put, List.setIfInBounds_toArray, List.set_cons_zero, List.set_cons_succ, i64_w, i32_w]
              rfl
            refine pure_ (i := 10) (N := some 58) (v := ?_) (a' := ?_) #[true, true, true, true, true, true, true, true, true, true, true, false, false, false, false] rfl rfl (by kernel_rfl) (fun _ _ _ h => h) (Or.inl ⟨by rfl, ?_⟩) ?_ ?_
            rotate_left
            · intro w_
              go_simp
              with_reducible rfl
            rotate_left
            · simp only [Act.put, List.setIfInBounds_toArray, List.set_cons_zero, List.set_cons_succ, i64_w, i32_w]
              rfl
            refine pure_ (i := 11) (N := some 59) (v := ?_) (a' := ?_) #[true, true, true, true, true, true, true, true, true, true, true, true, false, false, false] rfl rfl (by kernel_rfl) (fun _ _ _ h => h) (Or.inl ⟨by rfl, ?_⟩) ?_ ?_
            rotate_left
            · intro w_
              go_simp
              with_reducible rfl
            rotate_left
            · simp only [Act.put, List.setIfInBounds_toArray, List.set_cons_zero, List.set_cons_succ, i64_w, i32_w]
              rfl
            refine pure_ (i := 12) (N := some 60) (v := ?_) (a' := ?_) #[true, true, true, true, true, true, true, true, true, true, true, true, true, false, false] rfl rfl (by kernel_rfl) (fun _ _ _ h => h) (Or.inl ⟨by rfl, ?_⟩) ?_ ?_
            rotate_left
            · intro w_
              go_simp
              with_reducible rfl
            rotate_left
            · simp only [Act.put, List.setIfInBounds_toArray, List.set_cons_zero, List.set_cons_succ, i64_w, i32_w]
              rfl
            refine pure_ (i := 13) (N := some 61) (v := ?_) (a' := ?_) #[true, true, true, true, true, true, true, true, true, true, true, true, true, true, false] rfl rfl (by kernel_rfl) (fun _ _ _ h => h) (Or.inl ⟨by rfl, ?_⟩) ?_ ?_
            rotate_left
            · intro w_
              go_simp
              with_reducible rfl
            rotate_left
            · simp only [Act.put, List.setIfInBounds_toArray, List.set_cons_zero, List.set_cons_succ, i64_w, i32_w]
              rfl
            have yc := bump_cell (Kd.R_below HRR.out.1 HH.out) k (by omega)
            rw [gT, show (cpT (ts.getD k z64)).f1 = f from HFF.out] at yc
            obtain ⟨cs4, hc4⟩ := Kd.R_typed (Kd.R_below HRR.out.1 HH.out) gb rfl
            have yf : wv.frozen? ⟨gb, k * 8 + 1, none⟩ = false := by simp [World.frozen?, hc4]
            clear hc4
            refine last_ (i := 14) (N := none) #[true, true, true, true, true, true, true, true, true, true, true, true, true, true, true] rfl rfl (by kernel_rfl) (by decide) (fun K hK => ?_)
            go_simp
            refine hK.out _ _ ?_
            clear hK K
            refine done_ (by kernel_rfl) ?_
            clear yc yf
            have HA := Aside0.mk (after_bump (D := D) (v := f + m) H2.out.good hlt HGB.out.2 (HBB.out.trans (HH.out.mono HBB.out.size)) HGB.out.1 (HB4.out.below HH.out) (Kd.R_below HRR.out.1 HH.out) (Kd.R_below HRR.out.2.1 HH.out) (Kd.R_below HRR.out.2.2 HH.out))
            have HUP := Aside0.mk (bump_up ts k (f + m) hlt (by rw [HFF.out]; omega))
            have HLW := Aside0.mk (grows_law (rs := rs) (is := is) (by rw [← HER.out]; exact HE.out) HUP.out x.b9)
            clear HH HB4 HRR HBB HGB hw1 hw2 hdd hlo
            generalize wv.setCell ⟨gb, k * 8 + 1, none⟩ (.int .i64 (f + m)) = w5 at *
            have H5 := Aside0.mk (H2.out.below x (some ad) cT AR cR AI cI ts rs is HA.out.1)
            have HP5 := Aside0.mk ((HA.out.1.block _ (blk_lt HP2.out)).trans HP2.out)
            have HC5 := Aside0.mk (And.intro (Kd.C_below HC2.out.1 HA.out.1) (Kd.C_below HC2.out.2 HA.out.1))
            have HB5 := Aside0.mk HA.out.2.1
            have hrk := reckon_c (cpCV x.b9) (some ⟨gb, 0, none⟩) dT AR2 dR AI2 dI ((bump ts k (f + m)).map cpT) rs (is.map cpI) w5 HA.out.2.2
            rw [List.length_map, bump_len, List.length_map, reckonV_cp, show (cpCV x.b9).b9 = x.b9 from rfl] at hrk
            have hlw := HLW.out
            rw [HRE.out] at hlw
            obtain ⟨R2, hR2⟩ : ∃ R2, reckonV (bump ts k (f + m)) rs is x.b9 = R2 := ⟨_, rfl⟩
            rw [hR2] at hrk hlw
            obtain ⟨lw1, lw2, lw3, lw4, lw5, lw6, lw7, lw8⟩ := hlw
            have HRK := Aside0.mk hrk
            have HL1 := Aside0.mk lw1
            have HL2 := Aside0.mk (And.intro lw2 (And.intro lw3 (And.intro lw4 lw5)))
            have HL6 := Aside0.mk lw6
            have HL7 := Aside0.mk lw7
            have HL8 := Aside0.mk lw8
            clear HLW HUP HA H2 HP2 HC2 hR2 hrk lw1 lw2 lw3 lw4 lw5 lw6 lw7 lw8
            go_wp2_with (first | ((with_reducible refine gate_dst (N := 63) rfl ?_); refine load36 HB5.out rfl (.tmp 9) rfl rfl ?_))
            refine HRK.out.mono ?_
            rintro e w6 ⟨u0, u2, u3, u4, rfl, s0, s2, s3, s4, B6⟩
            obtain ⟨D0, d0, e0, _, hD0⟩ := s0
            obtain ⟨D2, d2, e2, _, hD2⟩ := s2
            obtain ⟨D3, d3, e3, _, _⟩ := s3
            obtain ⟨D4, d4, e4, _, _⟩ := s4
            subst e0 e2 e3 e4
            have hbx : Below w6.heap.size w6 (w6.alloc (.cells #[.slice D0 R2.l0.length d0, .int .i64 R2.s, .slice D2 R2.l2.length d2, .slice D3 R2.l3.length d3, .slice D4 R2.l4.length d4] 41)) := (Below.refl _ _).alloc (Nat.le_refl _) _
            have H7 := Aside0.mk ((H5.out.below x (some ad) cT AR cR AI cI ts rs is B6).below x (some ad) cT AR cR AI cI ts rs is hbx)
            have HP7 := Aside0.mk ((hbx.block _ (Nat.lt_of_lt_of_le (blk_lt HP5.out) B6.size)).trans ((B6.block _ (blk_lt HP5.out)).trans HP5.out))
            have HQ7 := Aside0.mk (heap_alloc_new w6 (.cells #[.slice D0 R2.l0.length d0, .int .i64 R2.s, .slice D2 R2.l2.length d2, .slice D3 R2.l3.length d3, .slice D4 R2.l4.length d4] 41))
            have HC7 := Aside0.mk (And.intro (Kd.C_below (Kd.C_below HC5.out.1 B6) hbx) (Kd.C_below (Kd.C_below HC5.out.2 B6) hbx))
            have HD7 := Aside0.mk (And.intro (Kd.C_below hD0 hbx) (Kd.C_below hD2 hbx))
            clear H5 HP5 HC5 HB5 HRK B6 hbx hD0 hD2
            go_wp2_with fail
            refine (num_calls _ _).mono ?_
            rintro e w' ⟨rfl, rfl⟩
            generalize w6.alloc (.cells #[.slice D0 R2.l0.length d0, .int .i64 R2.s, .slice D2 R2.l2.length d2, .slice D3 R2.l3.length d3, .slice D4 R2.l4.length d4] 41) = w7 at *
            generalize w6.heap.size = P2 at *
            have y0 : w7.cell? ⟨P, 0, none⟩ = some (.slice A0 rs.length c0) := by rw [← HL2.out.1]; have h := HP7.out; simp [World.cell?, h]
            have y1 : w7.cell? ⟨P, 1, none⟩ = some (.int .i64 R.s) := by have h := HP7.out; simp [World.cell?, h]
            have y2 : w7.cell? ⟨P, 2, none⟩ = some (.slice A2 ts.length c2) := by rw [← HL2.out.2.2.1]; have h := HP7.out; simp [World.cell?, h]
            have z0 : w7.cell? ⟨P2, 0, none⟩ = some (.slice D0 rs.length d0) := by rw [← HL2.out.2.1]; have h := HQ7.out; simp [World.cell?, h]
            have z1 : w7.cell? ⟨P2, 1, none⟩ = some (.int .i64 R2.s) := by have h := HQ7.out; simp [World.cell?, h]
            have z2 : w7.cell? ⟨P2, 2, none⟩ = some (.slice D2 ts.length d2) := by rw [← HL2.out.2.2.2]; have h := HQ7.out; simp [World.cell?, h]
            have b1 : (R2.er != 0) = false := by rw [HL1.out]; rfl
            have b2 : decide (R2.s < R.s) = false := decide_eq_false (by have := HL6.out; omega)
            have n1 : ((rs.length : Int) != (rs.length : Int)) = false := by simp
            have n2 : ((ts.length : Int) != (ts.length : Int)) = false := by simp
            have HY := Aside0.mk (And.intro y0 (And.intro y2 (And.intro z0 z2)))
            go_wp2_with fail
            clear b1 b2 n1 n2 y0 y1 y2 z0 z1 z2
            have HUV := Aside0.mk (show ∀ j : Nat, j < rs.length → usersV ts rs is (j : Int) = (tuL rs ts j ts.length, iuL rs is j is.length, 0) from fun j hj => by
              unfold usersV
              rw [if_neg (show ¬ (checkV ts rs is ≠ 0) from fun e => e (by rw [← HER.out]; exact HE.out)), if_neg (by omega)]
              rfl)
            go_loopw [12] (fun i wr => ∃ j : Nat, j ≤ rs.length ∧ i = .int .i64 j ∧ Aside0 (Below w7.heap.size w7 wr)) (fun i _ => rs.length - (intOf i).toNat)
            case atStart => exact ⟨0, by omega, rfl, ⟨Below.refl _ _⟩⟩
            case round =>
              as_aux_lemma =>
                obtain ⟨j, hj, rfl, HW⟩ := hrel
                have y0 := (HW.out.cell (World.block_lt_of_cell? w7 _ HY.out.1)).trans HY.out.1
                by_cases hjl : j < rs.length
                · have hd : decide ((j : Int) < (rs.length : Int)) = true := decide_eq_true (by omega)
                  have HLT := Aside0.mk (Nat.succ_le_of_lt hjl)
                  have Hr := Aside0.mk (H7.out.below x (some ad) cT AR cR AI cI ts rs is HW.out)
                  go_wp2_with (first | ((with_reducible refine gate_dst (N := 103) rfl ?_); refine load36 Hr.out.box rfl (.tmp 3) rfl rfl ?_))
                  refine (users_c x (some ad) cT AR cR AI cI ts rs is (j : Int) wr Hr.out.good).mono ?_
                  rw [HUV.out j hjl]
                  rintro e w8 ⟨vt, vu, rfl, q1, q2, B8⟩
                  obtain ⟨At, ct, e0, _, hCt⟩ := q1
                  obtain ⟨Au, cu, e1, _, _⟩ := q2
                  subst e0 e1
                  have HB8 := Aside0.mk (HW.out.trans (B8.mono HW.out.size))
                  have HCT := Aside0.mk hCt
                  clear hCt B8 Hr HW y0 hd
                  obtain ⟨aa, eA, hca⟩ := (Kd.reads_of_C (d := (0 : Int)) (Kd.C_below HC7.out.1 HB8.out)).2.2 (by rw [HL2.out.1]; omega)
                  obtain ⟨ab, eB, hcb⟩ := (Kd.reads_of_C (d := (0 : Int)) (Kd.C_below HD7.out.1 HB8.out)).2.2 (by rw [HL2.out.2.1]; omega)
                  have hxa := hca j (by rw [HL2.out.1]; exact hjl)
                  have hxb := hcb j (by rw [HL2.out.2.1]; exact hjl)
                  obtain ⟨hle, hoff⟩ := HL7.out j hjl
                  have HHS := Aside0.mk (tu_has (ts := ts) (rs := rs) j k ts.length hlt)
                  subst eA eB
                  generalize R.l0.getD j 0 = a at *
                  generalize R2.l0.getD j 0 = b at *
                  have y0 := (HB8.out.cell (World.block_lt_of_cell? w7 _ HY.out.1)).trans HY.out.1
                  have z0 := (HB8.out.cell (World.block_lt_of_cell? w7 _ HY.out.2.2.1)).trans HY.out.2.2.1
                  have hba : decide (b < a) = false := decide_eq_false (by omega)
                  have hdd : decide ((j : Int) < (rs.length : Int)) = true := decide_eq_true (by omega)
                  clear hca hcb
                  obtain ⟨u, hu⟩ : ∃ u, usesF rs j (ts.getD k z64).f5 = u := ⟨_, rfl⟩
                  rw [hu] at HHS hoff
                  clear hu
                  cases u
                  · as_aux_lemma =>
                      have hab : b = a := hoff rfl
                      subst hab
                      have hnn : (b != b) = false := by simp
                      clear hoff hle
                      go_wp2_with fail
                      refine start_ (n := 38) (S := fun w_ => Below w8.heap.size w8 w_) (ds := []) #[false, false, false, false, false, false, false, false, false, false, false, false, false, false, false, false, false, false, false, false, false, false, false, false, false, false, false, false, false, false, false, false, false, false, false, false, false, false] (by kernel_rfl) rfl rfl (drew_below w8) (fun hHeld => ?_)
                      have HH := Aside0.mk hHeld
                      clear hHeld
                      generalize w8.drew = wv at HH ⊢
                      refine pure_ (i := 0) (N := some 109) (v := ?_) (a' := ?_) #[true, false, false, false, false, false, false, false, false, false, false, false, false, false, false, false, false, false, false, false, false, false, false, false, false, false, false, false, false, false, false, false, false, false, false, false, false, false] rfl rfl (by kernel_rfl) (fun _ _ _ h => h) (Or.inl ⟨by rfl, ?_⟩) ?_ ?_
                      rotate_left
                      · intro w_
                        go_simp
                        with_reducible rfl
                      rotate_left
                      · simp only [Act.put, List.setIfInBounds_toArray, List.set_cons_zero, List.set_cons_succ, i64_w, i32_w]
                        rfl
                      refine take_ (i := 1) (N := some 110) (v := ?_) (a' := ?_) #[true, true, false, false, false, false, false, false, false, false, false, false, false, false, false, false, false, false, false, false, false, false, false, false, false, false, false, false, false, false, false, false, false, false, false, false, false, false] rfl rfl (by kernel_rfl) (fun _ _ _ h => h) (Or.inl ⟨by rfl, ?_⟩) HH.out ?_ ?_
                      rotate_left
                      · rintro w_ s
                        have y0 := (s.cell (World.block_lt_of_cell? w8 _ y0)).trans y0; have z0 := (s.cell (World.block_lt_of_cell? w8 _ z0)).trans z0; have hxa := (s.cell (World.block_lt_of_cell? w8 _ hxa)).trans hxa; have hxb := (s.cell (World.block_lt_of_cell? w8 _ hxb)).trans hxb
                        go_simp
                        with_reducible rfl
                      rotate_left
                      · simp only [Act.put, List.setIfInBounds_toArray, List.set_cons_zero, List.set_cons_succ, i64_w, i32_w]
                        rfl
                      refine pure_ (i := 2) (N := some 111) (v := ?_) (a' := ?_) #[true, true, true, false, false, false, false, false, false, false, false, false, false, false, false, false, false, false, false, false, false, false, false, false, false, false, false, false, false, false, false, false, false, false, false, false, false, false] rfl rfl (by kernel_rfl) (fun _ _ _ h => h) (Or.inl ⟨by rfl, ?_⟩) ?_ ?_
                      rotate_left
                      · intro w_
                        go_simp
                        with_reducible rfl
                      rotate_left
                      · simp only [Act.put, List.setIfInBounds_toArray, List.set_cons_zero, List.set_cons_succ, i64_w, i32_w]
                        rfl
                      refine pure_ (i := 3) (N := some 112) (v := ?_) (a' := ?_) #[true, true, true, true, false, false, false, false, false, false, false, false, false, false, false, false, false, false, false, false, false, false, false, false, false, false, false, false, false, false, false, false, false, false, false, false, false, false] rfl rfl (by kernel_rfl) (fun _ _ _ h => h) (Or.inl ⟨by rfl, ?_⟩) ?_ ?_
                      rotate_left
                      · intro w_
                        go_simp
                        with_reducible rfl
                      rotate_left
                      · simp only [Act.put, List.setIfInBounds_toArray, List.set_cons_zero, List.set_cons_succ, i64_w, i32_w]
                        rfl
                      refine take_ (i := 4) (N := some 113) (v := ?_) (a' := ?_) #[true, true, true, true, true, false, false, false, false, false, false, false, false, false, false, false, false, false, false, false, false, false, false, false, false, false, false, false, false, false, false, false, false, false, false, false, false, false] rfl rfl (by kernel_rfl) (fun _ _ _ h => h) (Or.inl ⟨by rfl, ?_⟩) HH.out ?_ ?_
                      rotate_left
                      · rintro w_ s
                        have y0 := (s.cell (World.block_lt_of_cell? w8 _ y0)).trans y0; have z0 := (s.cell (World.block_lt_of_cell? w8 _ z0)).trans z0; have hxa := (s.cell (World.block_lt_of_cell? w8 _ hxa)).trans hxa; have hxb := (s.cell (World.block_lt_of_cell? w8 _ hxb)).trans hxb
                        go_simp
                        with_reducible rfl
                      rotate_left
                      · simp only [Act.put, List.setIfInBounds_toArray, List.set_cons_zero, List.set_cons_succ, i64_w, i32_w]
                        rfl
                      refine pure_ (i := 5) (N := some 114) (v := ?_) (a' := ?_) #[true, true, true, true, true, true, false, false, false, false, false, false, false, false, false, false, false, false, false, false, false, false, false, false, false, false, false, false, false, false, false, false, false, false, false, false, false, false] rfl rfl (by kernel_rfl) (fun _ _ _ h => h) (Or.inl ⟨by rfl, ?_⟩) ?_ ?_
                      rotate_left
                      · intro w_
                        go_simp
                        with_reducible rfl
                      rotate_left
                      · simp only [Act.put, List.setIfInBounds_toArray, List.set_cons_zero, List.set_cons_succ, i64_w, i32_w]
                        rfl
                      refine take_ (i := 6) (N := some 115) (v := ?_) (a' := ?_) #[true, true, true, true, true, true, true, false, false, false, false, false, false, false, false, false, false, false, false, false, false, false, false, false, false, false, false, false, false, false, false, false, false, false, false, false, false, false] rfl rfl (by kernel_rfl) (fun _ _ _ h => h) (Or.inl ⟨by rfl, ?_⟩) HH.out ?_ ?_
                      rotate_left
                      · rintro w_ s
                        have y0 := (s.cell (World.block_lt_of_cell? w8 _ y0)).trans y0; have z0 := (s.cell (World.block_lt_of_cell? w8 _ z0)).trans z0; have hxa := (s.cell (World.block_lt_of_cell? w8 _ hxa)).trans hxa; have hxb := (s.cell (World.block_lt_of_cell? w8 _ hxb)).trans hxb
                        go_simp
                        with_reducible rfl
                      rotate_left
                      · simp only [Act.put, List.setIfInBounds_toArray, List.set_cons_zero, List.set_cons_succ, i64_w, i32_w]
                        rfl
                      refine pure_ (i := 7) (N := some 116) (v := ?_) (a' := ?_) #[true, true, true, true, true, true, true, true, false, false, false, false, false, false, false, false, false, false, false, false, false, false, false, false, false, false, false, false, false, false, false, false, false, false, false, false, false, false] rfl rfl (by kernel_rfl) (fun _ _ _ h => h) (Or.inl ⟨by rfl, ?_⟩) ?_ ?_
                      rotate_left
                      · intro w_
                        go_simp
                        with_reducible rfl
                      rotate_left
                      · simp only [Act.put, List.setIfInBounds_toArray, List.set_cons_zero, List.set_cons_succ, i64_w, i32_w]
                        rfl
                      refine pure_ (i := 8) (N := some 117) (v := ?_) (a' := ?_) #[true, true, true, true, true, true, true, true, true, false, false, false, false, false, false, false, false, false, false, false, false, false, false, false, false, false, false, false, false, false, false, false, false, false, false, false, false, false] rfl rfl (by kernel_rfl) (fun _ _ _ h => h) (Or.inl ⟨by rfl, ?_⟩) ?_ ?_
                      rotate_left
                      · intro w_
                        go_simp
                        with_reducible rfl
                      rotate_left
                      · simp only [Act.put, List.setIfInBounds_toArray, List.set_cons_zero, List.set_cons_succ, i64_w, i32_w]
                        rfl
                      refine take_ (i := 9) (N := some 118) (v := ?_) (a' := ?_) #[true, true, true, true, true, true, true, true, true, true, false, false, false, false, false, false, false, false, false, false, false, false, false, false, false, false, false, false, false, false, false, false, false, false, false, false, false, false] rfl rfl (by kernel_rfl) (fun _ _ _ h => h) (Or.inl ⟨by rfl, ?_⟩) HH.out ?_ ?_
                      rotate_left
                      · rintro w_ s
                        have y0 := (s.cell (World.block_lt_of_cell? w8 _ y0)).trans y0; have z0 := (s.cell (World.block_lt_of_cell? w8 _ z0)).trans z0; have hxa := (s.cell (World.block_lt_of_cell? w8 _ hxa)).trans hxa; have hxb := (s.cell (World.block_lt_of_cell? w8 _ hxb)).trans hxb
                        go_simp
                        with_reducible rfl
                      rotate_left
                      · simp only [Act.put, List.setIfInBounds_toArray, List.set_cons_zero, List.set_cons_succ, i64_w, i32_w]
                        rfl
                      refine pure_ (i := 10) (N := some 119) (v := ?_) (a' := ?_) #[true, true, true, true, true, true, true, true, true, true, true, false, false, false, false, false, false, false, false, false, false, false, false, false, false, false, false, false, false, false, false, false, false, false, false, false, false, false] rfl rfl (by kernel_rfl) (fun _ _ _ h => h) (Or.inl ⟨by rfl, ?_⟩) ?_ ?_
                      rotate_left
                      · intro w_
                        go_simp
                        with_reducible rfl
                      rotate_left
                      · simp only [Act.put, List.setIfInBounds_toArray, List.set_cons_zero, List.set_cons_succ, i64_w, i32_w]
                        rfl
                      refine pure_ (i := 11) (N := some 120) (v := ?_) (a' := ?_) #[true, true, true, true, true, true, true, true, true, true, true, true, false, false, false, false, false, false, false, false, false, false, false, false, false, false, false, false, false, false, false, false, false, false, false, false, false, false] rfl rfl (by kernel_rfl) (fun _ _ _ h => h) (Or.inl ⟨by rfl, ?_⟩) ?_ ?_
                      rotate_left
                      · intro w_
                        go_simp
                        with_reducible rfl
                      rotate_left
                      · simp only [Act.put, List.setIfInBounds_toArray, List.set_cons_zero, List.set_cons_succ, i64_w, i32_w]
                        rfl
                      refine pure_ (i := 12) (N := some 121) (v := undef) (a' := ?_) #[true, true, true, true, true, true, true, true, true, true, true, true, true, false, false, false, false, false, false, false, false, false, false, false, false, false, false, false, false, false, false, false, false, false, false, false, false, false] rfl rfl (by kernel_rfl) (fun _ _ _ h => h) (Or.inr ⟨by rfl, rfl⟩) ?_ ?_
                      rotate_left
                      · simp only [Act.put, List.setIfInBounds_toArray, List.set_cons_zero, List.set_cons_succ, i64_w, i32_w]
                        rfl
                      refine pure_ (i := 13) (N := some 122) (v := undef) (a' := ?_) #[true, true, true, true, true, true, true, true, true, true, true, true, true, true, false, false, false, false, false, false, false, false, false, false, false, false, false, false, false, false, false, false, false, false, false, false, false, false] rfl rfl (by kernel_rfl) (fun _ _ _ h => h) (Or.inr ⟨by rfl, rfl⟩) ?_ ?_
                      rotate_left
                      · simp only [Act.put, List.setIfInBounds_toArray, List.set_cons_zero, List.set_cons_succ, i64_w, i32_w]
                        rfl
                      refine pure_ (i := 14) (N := some 123) (v := undef) (a' := ?_) #[true, true, true, true, true, true, true, true, true, true, true, true, true, true, true, false, false, false, false, false, false, false, false, false, false, false, false, false, false, false, false, false, false, false, false, false, false, false] rfl rfl (by kernel_rfl) (fun _ _ _ h => h) (Or.inr ⟨by rfl, rfl⟩) ?_ ?_
                      rotate_left
                      · simp only [Act.put, List.setIfInBounds_toArray, List.set_cons_zero, List.set_cons_succ, i64_w, i32_w]
                        rfl
                      refine pure_ (i := 15) (N := some 124) (v := undef) (a' := ?_) #[true, true, true, true, true, true, true, true, true, true, true, true, true, true, true, true, false, false, false, false, false, false, false, false, false, false, false, false, false, false, false, false, false, false, false, false, false, false] rfl rfl (by kernel_rfl) (fun _ _ _ h => h) (Or.inr ⟨by rfl, rfl⟩) ?_ ?_
                      rotate_left
                      · simp only [Act.put, List.setIfInBounds_toArray, List.set_cons_zero, List.set_cons_succ, i64_w, i32_w]
                        rfl
                      refine pure_ (i := 16) (N := some 125) (v := undef) (a' := ?_) #[true, true, true, true, true, true, true, true, true, true, true, true, true, true, true, true, true, false, false, false, false, false, false, false, false, false, false, false, false, false, false, false, false, false, false, false, false, false] rfl rfl (by kernel_rfl) (fun _ _ _ h => h) (Or.inr ⟨by rfl, rfl⟩) ?_ ?_
                      rotate_left
                      · simp only [Act.put, List.setIfInBounds_toArray, List.set_cons_zero, List.set_cons_succ, i64_w, i32_w]
                        rfl
                      refine pure_ (i := 17) (N := some 126) (v := undef) (a' := ?_) #[true, true, true, true, true, true, true, true, true, true, true, true, true, true, true, true, true, true, false, false, false, false, false, false, false, false, false, false, false, false, false, false, false, false, false, false, false, false] rfl rfl (by kernel_rfl) (fun _ _ _ h => h) (Or.inr ⟨by rfl, rfl⟩) ?_ ?_
                      rotate_left
                      · simp only [Act.put, List.setIfInBounds_toArray, List.set_cons_zero, List.set_cons_succ, i64_w, i32_w]
                        rfl
                      refine pure_ (i := 18) (N := some 127) (v := ?_) (a' := ?_) #[true, true, true, true, true, true, true, true, true, true, true, true, true, true, true, true, true, true, true, false, false, false, false, false, false, false, false, false, false, false, false, false, false, false, false, false, false, false] rfl rfl (by kernel_rfl) (fun _ _ _ h => h) (Or.inl ⟨by rfl, ?_⟩) ?_ ?_
                      rotate_left
                      · intro w_
                        go_simp
                        with_reducible rfl
                      rotate_left
                      · simp only [Act.put, List.setIfInBounds_toArray, List.set_cons_zero, List.set_cons_succ, i64_w, i32_w]
                        rfl
                      refine pure_ (i := 19) (N := some 128) (v := ?_) (a' := ?_) #[true, true, true, true, true, true, true, true, true, true, true, true, true, true, true, true, true, true, true, true, false, false, false, false, false, false, false, false, false, false, false, false, false, false, false, false, false, false] rfl rfl (by kernel_rfl) (fun _ _ _ h => h) (Or.inl ⟨by rfl, ?_⟩) ?_ ?_
                      rotate_left
                      · intro w_
                        go_simp
                        with_reducible rfl
                      rotate_left
                      · simp only [Act.put, List.setIfInBounds_toArray, List.set_cons_zero, List.set_cons_succ, i64_w, i32_w]
                        rfl
                      refine pure_ (i := 20) (N := some 129) (v := ?_) (a' := ?_) #[true, true, true, true, true, true, true, true, true, true, true, true, true, true, true, true, true, true, true, true, true, false, false, false, false, false, false, false, false, false, false, false, false, false, false, false, false, false] rfl rfl (by kernel_rfl) (fun _ _ _ h => h) (Or.inl ⟨by rfl, ?_⟩) ?_ ?_
                      rotate_left
                      · intro w_
                        go_simp
                        with_reducible rfl
                      rotate_left
                      · simp only [Act.put, List.setIfInBounds_toArray, List.set_cons_zero, List.set_cons_succ, i64_w, i32_w]
                        rfl
                      refine pure_ (i := 21) (N := some 130) (v := ?_) (a' := ?_) #[true, true, true, true, true, true, true, true, true, true, true, true, true, true, true, true, true, true, true, true, true, true, false, false, false, false, false, false, false, false, false, false, false, false, false, false, false, false] rfl rfl (by kernel_rfl) (fun _ _ _ h => h) (Or.inl ⟨by rfl, ?_⟩) ?_ ?_
                      rotate_left
                      · intro w_
                        go_simp
                        with_reducible rfl
                      rotate_left
                      · simp only [Act.put, List.setIfInBounds_toArray, List.set_cons_zero, List.set_cons_succ, i64_w, i32_w]
                        rfl
                      refine one_ (i := 22) (N := some 131) #[true, true, true, true, true, true, true, true, true, true, true, true, true, true, true, true, true, true, true, true, true, true, true, false, false, false, false, false, false, false, false, false, false, false, false, false, false, false] rfl rfl (by kernel_rfl) (by decide) (fun K hK => ?_)
                      refine goes_ Try.func25 (by kernel_rfl) rfl #[.slice At (tuL rs ts j ts.length).length ct, .int .i64 (k : Int)] (by rfl) rfl rfl (by first | rfl | (simp only [List.map_toArray, List.map_cons, List.map_nil]; rfl) | simp) ?_
                      refine (has_calls At ct (tuL rs ts j ts.length) (k : Int) wv (Kd.C_below HCT.out HH.out)).mono ?_
                      rintro e wb ⟨rfl, rfl⟩
                      rw [HHS.out]
                      have B2 := Below.refl wv.heap.size wv
                      refine ⟨_, rfl, ?_⟩
                      have HH2 := Aside0.mk (HH.out.trans (B2.mono HH.out.size))
                      clear HH B2
                      have HH := HH2
                      clear HH2
                      refine hK.out _ _ HH.out (fun _ => ?_)
                      clear hK K
                      refine norm_ (a' := ?_) ?_ ?_
                      rotate_left
                      · show Act.put _ (some 131) _ = _
                        simp only [Act.put, List.setIfInBounds_toArray, List.set_cons_zero, List.set_cons_succ, i64_w, i32_w]
                        rfl
                      refine pure_ (i := 23) (N := some 132) (v := ?_) (a' := ?_) #[true, true, true, true, true, true, true, true, true, true, true, true, true, true, true, true, true, true, true, true, true, true, true, true, false, false, false, false, false, false, false, false, false, false, false, false, false, false] rfl rfl (by kernel_rfl) (fun _ _ _ h => h) (Or.inl ⟨by rfl, ?_⟩) ?_ ?_
                      rotate_left
                      · intro w_
                        go_simp
                        with_reducible rfl
                      rotate_left
                      · simp only [Act.put, List.setIfInBounds_toArray, List.set_cons_zero, List.set_cons_succ, i64_w, i32_w]
                        rfl
                      refine pure_ (i := 24) (N := some 133) (v := ?_) (a' := ?_) #[true, true, true, true, true, true, true, true, true, true, true, true, true, true, true, true, true, true, true, true, true, true, true, true, true, false, false, false, false, false, false, false, false, false, false, false, false, false] rfl rfl (by kernel_rfl) (fun _ _ _ h => h) (Or.inl ⟨by rfl, ?_⟩) ?_ ?_
                      rotate_left
                      · intro w_
                        go_simp
                        with_reducible rfl
                      rotate_left
                      · simp only [Act.put, List.setIfInBounds_toArray, List.set_cons_zero, List.set_cons_succ, i64_w, i32_w]
                        rfl
                      refine pure_ (i := 25) (N := some 134) (v := ?_) (a' := ?_) #[true, true, true, true, true, true, true, true, true, true, true, true, true, true, true, true, true, true, true, true, true, true, true, true, true, true, false, false, false, false, false, false, false, false, false, false, false, false] rfl rfl (by kernel_rfl) (fun _ _ _ h => h) (Or.inl ⟨by rfl, ?_⟩) ?_ ?_
                      rotate_left
                      · intro w_
                        go_simp
                        with_reducible rfl
                      rotate_left
                      · simp only [Act.put, List.setIfInBounds_toArray, List.set_cons_zero, List.set_cons_succ, i64_w, i32_w]
                        rfl
                      refine take_ (i := 26) (N := some 135) (v := ?_) (a' := ?_) #[true, true, true, true, true, true, true, true, true, true, true, true, true, true, true, true, true, true, true, true, true, true, true, true, true, true, true, false, false, false, false, false, false, false, false, false, false, false] rfl rfl (by kernel_rfl) (fun _ _ _ h => h) (Or.inl ⟨by rfl, ?_⟩) HH.out ?_ ?_
                      rotate_left
                      · rintro w_ s
                        have y0 := (s.cell (World.block_lt_of_cell? w8 _ y0)).trans y0; have z0 := (s.cell (World.block_lt_of_cell? w8 _ z0)).trans z0; have hxa := (s.cell (World.block_lt_of_cell? w8 _ hxa)).trans hxa; have hxb := (s.cell (World.block_lt_of_cell? w8 _ hxb)).trans hxb
                        go_simp
                        with_reducible rfl
                      rotate_left
                      · simp only [Act.put, List.setIfInBounds_toArray, List.set_cons_zero, List.set_cons_succ, i64_w, i32_w]
                        rfl
                      refine pure_ (i := 27) (N := some 136) (v := ?_) (a' := ?_) #[true, true, true, true, true, true, true, true, true, true, true, true, true, true, true, true, true, true, true, true, true, true, true, true, true, true, true, true, false, false, false, false, false, false, false, false, false, false] rfl rfl (by kernel_rfl) (fun _ _ _ h => h) (Or.inl ⟨by rfl, ?_⟩) ?_ ?_
                      rotate_left
                      · intro w_
                        go_simp
                        with_reducible rfl
                      rotate_left
                      · simp only [Act.put, List.setIfInBounds_toArray, List.set_cons_zero, List.set_cons_succ, i64_w, i32_w]
                        rfl
                      refine pure_ (i := 28) (N := some 137) (v := ?_) (a' := ?_) #[true, true, true, true, true, true, true, true, true, true, true, true, true, true, true, true, true, true, true, true, true, true, true, true, true, true, true, true, true, false, false, false, false, false, false, false, false, false] rfl rfl (by kernel_rfl) (fun _ _ _ h => h) (Or.inl ⟨by rfl, ?_⟩) ?_ ?_
                      rotate_left
                      · intro w_
                        go_simp
                        with_reducible rfl
                      rotate_left
                      · simp only [Act.put, List.setIfInBounds_toArray, List.set_cons_zero, List.set_cons_succ, i64_w, i32_w]
                        rfl
                      refine take_ (i := 29) (N := some 138) (v := ?_) (a' := ?_) #[true, true, true, true, true, true, true, true, true, true, true, true, true, true, true, true, true, true, true, true, true, true, true, true, true, true, true, true, true, true, false, false, false, false, false, false, false, false] rfl rfl (by kernel_rfl) (fun _ _ _ h => h) (Or.inl ⟨by rfl, ?_⟩) HH.out ?_ ?_
                      rotate_left
                      · rintro w_ s
                        have y0 := (s.cell (World.block_lt_of_cell? w8 _ y0)).trans y0; have z0 := (s.cell (World.block_lt_of_cell? w8 _ z0)).trans z0; have hxa := (s.cell (World.block_lt_of_cell? w8 _ hxa)).trans hxa; have hxb := (s.cell (World.block_lt_of_cell? w8 _ hxb)).trans hxb
                        go_simp
                        with_reducible rfl
                      rotate_left
                      · simp only [Act.put, List.setIfInBounds_toArray, List.set_cons_zero, List.set_cons_succ, i64_w, i32_w]
                        rfl
                      refine pure_ (i := 30) (N := some 139) (v := ?_) (a' := ?_) #[true, true, true, true, true, true, true, true, true, true, true, true, true, true, true, true, true, true, true, true, true, true, true, true, true, true, true, true, true, true, true, false, false, false, false, false, false, false] rfl rfl (by kernel_rfl) (fun _ _ _ h => h) (Or.inl ⟨by rfl, ?_⟩) ?_ ?_
                      rotate_left
                      · intro w_
                        go_simp
                        with_reducible rfl
                      rotate_left
                      · simp only [Act.put, List.setIfInBounds_toArray, List.set_cons_zero, List.set_cons_succ, i64_w, i32_w]
                        rfl
                      refine take_ (i := 31) (N := some 140) (v := ?_) (a' := ?_) #[true, true, true, true, true, true, true, true, true, true, true, true, true, true, true, true, true, true, true, true, true, true, true, true, true, true, true, true, true, true, true, true, false, false, false, false, false, false] rfl rfl (by kernel_rfl) (fun _ _ _ h => h) (Or.inl ⟨by rfl, ?_⟩) HH.out ?_ ?_
                      rotate_left
                      · rintro w_ s
                        have y0 := (s.cell (World.block_lt_of_cell? w8 _ y0)).trans y0; have z0 := (s.cell (World.block_lt_of_cell? w8 _ z0)).trans z0; have hxa := (s.cell (World.block_lt_of_cell? w8 _ hxa)).trans hxa; have hxb := (s.cell (World.block_lt_of_cell? w8 _ hxb)).trans hxb
                        go_simp
                        with_reducible rfl
                      rotate_left
                      · simp only [Act.put, List.setIfInBounds_toArray, List.set_cons_zero, List.set_cons_succ, i64_w, i32_w]
                        rfl
                      refine pure_ (i := 32) (N := some 141) (v := ?_) (a' := ?_) #[true, true, true, true, true, true, true, true, true, true, true, true, true, true, true, true, true, true, true, true, true, true, true, true, true, true, true, true, true, true, true, true, true, false, false, false, false, false] rfl rfl (by kernel_rfl) (fun _ _ _ h => h) (Or.inl ⟨by rfl, ?_⟩) ?_ ?_
                      rotate_left
                      · intro w_
                        go_simp
                        with_reducible rfl
                      rotate_left
                      · simp only [Act.put, List.setIfInBounds_toArray, List.set_cons_zero, List.set_cons_succ, i64_w, i32_w]
                        rfl
                      refine pure_ (i := 33) (N := some 142) (v := ?_) (a' := ?_) #[true, true, true, true, true, true, true, true, true, true, true, true, true, true, true, true, true, true, true, true, true, true, true, true, true, true, true, true, true, true, true, true, true, true, false, false, false, false] rfl rfl (by kernel_rfl) (fun _ _ _ h => h) (Or.inl ⟨by rfl, ?_⟩) ?_ ?_
                      rotate_left
                      · intro w_
                        go_simp
                        with_reducible rfl
                      rotate_left
                      · simp only [Act.put, List.setIfInBounds_toArray, List.set_cons_zero, List.set_cons_succ, i64_w, i32_w]
                        rfl
                      refine take_ (i := 34) (N := some 143) (v := ?_) (a' := ?_) #[true, true, true, true, true, true, true, true, true, true, true, true, true, true, true, true, true, true, true, true, true, true, true, true, true, true, true, true, true, true, true, true, true, true, true, false, false, false] rfl rfl (by kernel_rfl) (fun _ _ _ h => h) (Or.inl ⟨by rfl, ?_⟩) HH.out ?_ ?_
                      rotate_left
                      · rintro w_ s
                        have y0 := (s.cell (World.block_lt_of_cell? w8 _ y0)).trans y0; have z0 := (s.cell (World.block_lt_of_cell? w8 _ z0)).trans z0; have hxa := (s.cell (World.block_lt_of_cell? w8 _ hxa)).trans hxa; have hxb := (s.cell (World.block_lt_of_cell? w8 _ hxb)).trans hxb
                        go_simp
                        with_reducible rfl
                      rotate_left
                      · simp only [Act.put, List.setIfInBounds_toArray, List.set_cons_zero, List.set_cons_succ, i64_w, i32_w]
                        rfl
                      refine pure_ (i := 35) (N := some 144) (v := ?_) (a' := ?_) #[true, true, true, true, true, true, true, true, true, true, true, true, true, true, true, true, true, true, true, true, true, true, true, true, true, true, true, true, true, true, true, true, true, true, true, true, false, false] rfl rfl (by kernel_rfl) (fun _ _ _ h => h) (Or.inl ⟨by rfl, ?_⟩) ?_ ?_
                      rotate_left
                      · intro w_
                        go_simp
                        with_reducible rfl
                      rotate_left
                      · simp only [Act.put, List.setIfInBounds_toArray, List.set_cons_zero, List.set_cons_succ, i64_w, i32_w]
                        rfl
                      refine pure_ (i := 36) (N := some 145) (v := ?_) (a' := ?_) #[true, true, true, true, true, true, true, true, true, true, true, true, true, true, true, true, true, true, true, true, true, true, true, true, true, true, true, true, true, true, true, true, true, true, true, true, true, false] rfl rfl (by kernel_rfl) (fun _ _ _ h => h) (Or.inl ⟨by rfl, ?_⟩) ?_ ?_
                      rotate_left
                      · intro w_
                        go_simp
                        with_reducible rfl
                      rotate_left
                      · simp only [Act.put, List.setIfInBounds_toArray, List.set_cons_zero, List.set_cons_succ, i64_w, i32_w]
                        rfl
                      refine pure_ (i := 37) (N := some 146) (v := ?_) (a' := ?_) #[true, true, true, true, true, true, true, true, true, true, true, true, true, true, true, true, true, true, true, true, true, true, true, true, true, true, true, true, true, true, true, true, true, true, true, true, true, true] rfl rfl (by kernel_rfl) (fun _ _ _ h => h) (Or.inl ⟨by rfl, ?_⟩) ?_ ?_
                      rotate_left
                      · intro w_
                        go_simp
                        with_reducible rfl
                      rotate_left
                      · simp only [Act.put, List.setIfInBounds_toArray, List.set_cons_zero, List.set_cons_succ, i64_w, i32_w]
                        rfl
                      refine done_ (by kernel_rfl) ?_
                      go_wp2_with fail
                      go_roundw
                      case rel => exact ⟨j + 1, HLT.out, by go_num, ⟨HB8.out.trans (HH.out.mono HB8.out.size)⟩⟩
                      case measure => have := HLT.out; simp [intOf]; omega
                  · as_aux_lemma =>
                      clear hoff hle
                      go_wp2_with fail
                      refine start_ (n := 38) (S := fun w_ => Below w8.heap.size w8 w_) (ds := []) #[false, false, false, false, false, false, false, false, false, false, false, false, false, false, false, false, false, false, false, false, false, false, false, false, false, false, false, false, false, false, false, false, false, false, false, false, false, false] (by kernel_rfl) rfl rfl (drew_below w8) (fun hHeld => ?_)
                      have HH := Aside0.mk hHeld
                      clear hHeld
                      generalize w8.drew = wv at HH ⊢
                      refine pure_ (i := 0) (N := some 109) (v := ?_) (a' := ?_) #[true, false, false, false, false, false, false, false, false, false, false, false, false, false, false, false, false, false, false, false, false, false, false, false, false, false, false, false, false, false, false, false, false, false, false, false, false, false] rfl rfl (by kernel_rfl) (fun _ _ _ h => h) (Or.inl ⟨by rfl, ?_⟩) ?_ ?_
                      rotate_left
                      · intro w_
                        go_simp
                        with_reducible rfl
                      rotate_left
                      · simp only [Act.put, List.setIfInBounds_toArray, List.set_cons_zero, List.set_cons_succ, i64_w, i32_w]
                        rfl
                      refine take_ (i := 1) (N := some 110) (v := ?_) (a' := ?_) #[true, true, false, false, false, false, false, false, false, false, false, false, false, false, false, false, false, false, false, false, false, false, false, false, false, false, false, false, false, false, false, false, false, false, false, false, false, false] rfl rfl (by kernel_rfl) (fun _ _ _ h => h) (Or.inl ⟨by rfl, ?_⟩) HH.out ?_ ?_
                      rotate_left
                      · rintro w_ s
                        have y0 := (s.cell (World.block_lt_of_cell? w8 _ y0)).trans y0; have z0 := (s.cell (World.block_lt_of_cell? w8 _ z0)).trans z0; have hxa := (s.cell (World.block_lt_of_cell? w8 _ hxa)).trans hxa; have hxb := (s.cell (World.block_lt_of_cell? w8 _ hxb)).trans hxb
                        go_simp
                        with_reducible rfl
                      rotate_left
                      · simp only [Act.put, List.setIfInBounds_toArray, List.set_cons_zero, List.set_cons_succ, i64_w, i32_w]
                        rfl
                      refine pure_ (i := 2) (N := some 111) (v := ?_) (a' := ?_) #[true, true, true, false, false, false, false, false, false, false, false, false, false, false, false, false, false, false, false, false, false, false, false, false, false, false, false, false, false, false, false, false, false, false, false, false, false, false] rfl rfl (by kernel_rfl) (fun _ _ _ h => h) (Or.inl ⟨by rfl, ?_⟩) ?_ ?_
                      rotate_left
                      · intro w_
                        go_simp
                        with_reducible rfl
                      rotate_left
                      · simp only [Act.put, List.setIfInBounds_toArray, List.set_cons_zero, List.set_cons_succ, i64_w, i32_w]
                        rfl
                      refine pure_ (i := 3) (N := some 112) (v := ?_) (a' := ?_) #[true, true, true, true, false, false, false, false, false, false, false, false, false, false, false, false, false, false, false, false, false, false, false, false, false, false, false, false, false, false, false, false, false, false, false, false, false, false] rfl rfl (by kernel_rfl) (fun _ _ _ h => h) (Or.inl ⟨by rfl, ?_⟩) ?_ ?_
                      rotate_left
                      · intro w_
                        go_simp
                        with_reducible rfl
                      rotate_left
                      · simp only [Act.put, List.setIfInBounds_toArray, List.set_cons_zero, List.set_cons_succ, i64_w, i32_w]
                        rfl
                      refine take_ (i := 4) (N := some 113) (v := ?_) (a' := ?_) #[true, true, true, true, true, false, false, false, false, false, false, false, false, false, false, false, false, false, false, false, false, false, false, false, false, false, false, false, false, false, false, false, false, false, false, false, false, false] rfl rfl (by kernel_rfl) (fun _ _ _ h => h) (Or.inl ⟨by rfl, ?_⟩) HH.out ?_ ?_
                      rotate_left
                      · rintro w_ s
                        have y0 := (s.cell (World.block_lt_of_cell? w8 _ y0)).trans y0; have z0 := (s.cell (World.block_lt_of_cell? w8 _ z0)).trans z0; have hxa := (s.cell (World.block_lt_of_cell? w8 _ hxa)).trans hxa; have hxb := (s.cell (World.block_lt_of_cell? w8 _ hxb)).trans hxb
                        go_simp
                        with_reducible rfl
                      rotate_left
                      · simp only [Act.put, List.setIfInBounds_toArray, List.set_cons_zero, List.set_cons_succ, i64_w, i32_w]
                        rfl
                      refine pure_ (i := 5) (N := some 114) (v := ?_) (a' := ?_) #[true, true, true, true, true, true, false, false, false, false, false, false, false, false, false, false, false, false, false, false, false, false, false, false, false, false, false, false, false, false, false, false, false, false, false, false, false, false] rfl rfl (by kernel_rfl) (fun _ _ _ h => h) (Or.inl ⟨by rfl, ?_⟩) ?_ ?_
                      rotate_left
                      · intro w_
                        go_simp
                        with_reducible rfl
                      rotate_left
                      · simp only [Act.put, List.setIfInBounds_toArray, List.set_cons_zero, List.set_cons_succ, i64_w, i32_w]
                        rfl
                      refine take_ (i := 6) (N := some 115) (v := ?_) (a' := ?_) #[true, true, true, true, true, true, true, false, false, false, false, false, false, false, false, false, false, false, false, false, false, false, false, false, false, false, false, false, false, false, false, false, false, false, false, false, false, false] rfl rfl (by kernel_rfl) (fun _ _ _ h => h) (Or.inl ⟨by rfl, ?_⟩) HH.out ?_ ?_
                      rotate_left
                      · rintro w_ s
                        have y0 := (s.cell (World.block_lt_of_cell? w8 _ y0)).trans y0; have z0 := (s.cell (World.block_lt_of_cell? w8 _ z0)).trans z0; have hxa := (s.cell (World.block_lt_of_cell? w8 _ hxa)).trans hxa; have hxb := (s.cell (World.block_lt_of_cell? w8 _ hxb)).trans hxb
                        go_simp
                        with_reducible rfl
                      rotate_left
                      · simp only [Act.put, List.setIfInBounds_toArray, List.set_cons_zero, List.set_cons_succ, i64_w, i32_w]
                        rfl
                      refine pure_ (i := 7) (N := some 116) (v := ?_) (a' := ?_) #[true, true, true, true, true, true, true, true, false, false, false, false, false, false, false, false, false, false, false, false, false, false, false, false, false, false, false, false, false, false, false, false, false, false, false, false, false, false] rfl rfl (by kernel_rfl) (fun _ _ _ h => h) (Or.inl ⟨by rfl, ?_⟩) ?_ ?_
                      rotate_left
                      · intro w_
                        go_simp
                        with_reducible rfl
                      rotate_left
                      · simp only [Act.put, List.setIfInBounds_toArray, List.set_cons_zero, List.set_cons_succ, i64_w, i32_w]
                        rfl
                      refine pure_ (i := 8) (N := some 117) (v := ?_) (a' := ?_) #[true, true, true, true, true, true, true, true, true, false, false, false, false, false, false, false, false, false, false, false, false, false, false, false, false, false, false, false, false, false, false, false, false, false, false, false, false, false] rfl rfl (by kernel_rfl) (fun _ _ _ h => h) (Or.inl ⟨by rfl, ?_⟩) ?_ ?_
                      rotate_left
                      · intro w_
                        go_simp
                        with_reducible rfl
                      rotate_left
                      · simp only [Act.put, List.setIfInBounds_toArray, List.set_cons_zero, List.set_cons_succ, i64_w, i32_w]
                        rfl
                      refine take_ (i := 9) (N := some 118) (v := ?_) (a' := ?_) #[true, true, true, true, true, true, true, true, true, true, false, false, false, false, false, false, false, false, false, false, false, false, false, false, false, false, false, false, false, false, false, false, false, false, false, false, false, false] rfl rfl (by kernel_rfl) (fun _ _ _ h => h) (Or.inl ⟨by rfl, ?_⟩) HH.out ?_ ?_
                      rotate_left
                      · rintro w_ s
                        have y0 := (s.cell (World.block_lt_of_cell? w8 _ y0)).trans y0; have z0 := (s.cell (World.block_lt_of_cell? w8 _ z0)).trans z0; have hxa := (s.cell (World.block_lt_of_cell? w8 _ hxa)).trans hxa; have hxb := (s.cell (World.block_lt_of_cell? w8 _ hxb)).trans hxb
                        go_simp
                        with_reducible rfl
                      rotate_left
                      · simp only [Act.put, List.setIfInBounds_toArray, List.set_cons_zero, List.set_cons_succ, i64_w, i32_w]
                        rfl
                      refine pure_ (i := 10) (N := some 119) (v := ?_) (a' := ?_) #[true, true, true, true, true, true, true, true, true, true, true, false, false, false, false, false, false, false, false, false, false, false, false, false, false, false, false, false, false, false, false, false, false, false, false, false, false, false] rfl rfl (by kernel_rfl) (fun _ _ _ h => h) (Or.inl ⟨by rfl, ?_⟩) ?_ ?_
                      rotate_left
                      · intro w_
                        go_simp
                        with_reducible rfl
                      rotate_left
                      · simp only [Act.put, List.setIfInBounds_toArray, List.set_cons_zero, List.set_cons_succ, i64_w, i32_w]
                        rfl
                      refine pure_ (i := 11) (N := some 120) (v := ?_) (a' := ?_) #[true, true, true, true, true, true, true, true, true, true, true, true, false, false, false, false, false, false, false, false, false, false, false, false, false, false, false, false, false, false, false, false, false, false, false, false, false, false] rfl rfl (by kernel_rfl) (fun _ _ _ h => h) (Or.inl ⟨by rfl, ?_⟩) ?_ ?_
                      rotate_left
                      · intro w_
                        go_simp
                        with_reducible rfl
                      rotate_left
                      · simp only [Act.put, List.setIfInBounds_toArray, List.set_cons_zero, List.set_cons_succ, i64_w, i32_w]
                        rfl
                      refine pure_ (i := 12) (N := some 121) (v := undef) (a' := ?_) #[true, true, true, true, true, true, true, true, true, true, true, true, true, false, false, false, false, false, false, false, false, false, false, false, false, false, false, false, false, false, false, false, false, false, false, false, false, false] rfl rfl (by kernel_rfl) (fun _ _ _ h => h) (Or.inr ⟨by rfl, rfl⟩) ?_ ?_
                      rotate_left
                      · simp only [Act.put, List.setIfInBounds_toArray, List.set_cons_zero, List.set_cons_succ, i64_w, i32_w]
                        rfl
                      refine pure_ (i := 13) (N := some 122) (v := undef) (a' := ?_) #[true, true, true, true, true, true, true, true, true, true, true, true, true, true, false, false, false, false, false, false, false, false, false, false, false, false, false, false, false, false, false, false, false, false, false, false, false, false] rfl rfl (by kernel_rfl) (fun _ _ _ h => h) (Or.inr ⟨by rfl, rfl⟩) ?_ ?_
                      rotate_left
                      · simp only [Act.put, List.setIfInBounds_toArray, List.set_cons_zero, List.set_cons_succ, i64_w, i32_w]
                        rfl
                      refine pure_ (i := 14) (N := some 123) (v := undef) (a' := ?_) #[true, true, true, true, true, true, true, true, true, true, true, true, true, true, true, false, false, false, false, false, false, false, false, false, false, false, false, false, false, false, false, false, false, false, false, false, false, false] rfl rfl (by kernel_rfl) (fun _ _ _ h => h) (Or.inr ⟨by rfl, rfl⟩) ?_ ?_
                      rotate_left
                      · simp only [Act.put, List.setIfInBounds_toArray, List.set_cons_zero, List.set_cons_succ, i64_w, i32_w]
                        rfl
                      refine pure_ (i := 15) (N := some 124) (v := undef) (a' := ?_) #[true, true, true, true, true, true, true, true, true, true, true, true, true, true, true, true, false, false, false, false, false, false, false, false, false, false, false, false, false, false, false, false, false, false, false, false, false, false] rfl rfl (by kernel_rfl) (fun _ _ _ h => h) (Or.inr ⟨by rfl, rfl⟩) ?_ ?_
                      rotate_left
                      · simp only [Act.put, List.setIfInBounds_toArray, List.set_cons_zero, List.set_cons_succ, i64_w, i32_w]
                        rfl
                      refine pure_ (i := 16) (N := some 125) (v := undef) (a' := ?_) #[true, true, true, true, true, true, true, true, true, true, true, true, true, true, true, true, true, false, false, false, false, false, false, false, false, false, false, false, false, false, false, false, false, false, false, false, false, false] rfl rfl (by kernel_rfl) (fun _ _ _ h => h) (Or.inr ⟨by rfl, rfl⟩) ?_ ?_
                      rotate_left
                      · simp only [Act.put, List.setIfInBounds_toArray, List.set_cons_zero, List.set_cons_succ, i64_w, i32_w]
                        rfl
                      refine pure_ (i := 17) (N := some 126) (v := undef) (a' := ?_) #[true, true, true, true, true, true, true, true, true, true, true, true, true, true, true, true, true, true, false, false, false, false, false, false, false, false, false, false, false, false, false, false, false, false, false, false, false, false] rfl rfl (by kernel_rfl) (fun _ _ _ h => h) (Or.inr ⟨by rfl, rfl⟩) ?_ ?_
                      rotate_left
                      · simp only [Act.put, List.setIfInBounds_toArray, List.set_cons_zero, List.set_cons_succ, i64_w, i32_w]
                        rfl
                      refine pure_ (i := 18) (N := some 127) (v := ?_) (a' := ?_) #[true, true, true, true, true, true, true, true, true, true, true, true, true, true, true, true, true, true, true, false, false, false, false, false, false, false, false, false, false, false, false, false, false, false, false, false, false, false] rfl rfl (by kernel_rfl) (fun _ _ _ h => h) (Or.inl ⟨by rfl, ?_⟩) ?_ ?_
                      rotate_left
                      · intro w_
                        go_simp
                        with_reducible rfl
                      rotate_left
                      · simp only [Act.put, List.setIfInBounds_toArray, List.set_cons_zero, List.set_cons_succ, i64_w, i32_w]
                        rfl
                      refine pure_ (i := 19) (N := some 128) (v := ?_) (a' := ?_) #[true, true, true, true, true, true, true, true, true, true, true, true, true, true, true, true, true, true, true, true, false, false, false, false, false, false, false, false, false, false, false, false, false, false, false, false, false, false] rfl rfl (by kernel_rfl) (fun _ _ _ h => h) (Or.inl ⟨by rfl, ?_⟩) ?_ ?_
                      rotate_left
                      · intro w_
                        go_simp
                        with_reducible rfl
                      rotate_left
                      · simp only [Act.put, List.setIfInBounds_toArray, List.set_cons_zero, List.set_cons_succ, i64_w, i32_w]
                        rfl
                      refine pure_ (i := 20) (N := some 129) (v := ?_) (a' := ?_) #[true, true, true, true, true, true, true, true, true, true, true, true, true, true, true, true, true, true, true, true, true, false, false, false, false, false, false, false, false, false, false, false, false, false, false, false, false, false] rfl rfl (by kernel_rfl) (fun _ _ _ h => h) (Or.inl ⟨by rfl, ?_⟩) ?_ ?_
                      rotate_left
                      · intro w_
                        go_simp
                        with_reducible rfl
                      rotate_left
                      · simp only [Act.put, List.setIfInBounds_toArray, List.set_cons_zero, List.set_cons_succ, i64_w, i32_w]
                        rfl
                      refine pure_ (i := 21) (N := some 130) (v := ?_) (a' := ?_) #[true, true, true, true, true, true, true, true, true, true, true, true, true, true, true, true, true, true, true, true, true, true, false, false, false, false, false, false, false, false, false, false, false, false, false, false, false, false] rfl rfl (by kernel_rfl) (fun _ _ _ h => h) (Or.inl ⟨by rfl, ?_⟩) ?_ ?_
                      rotate_left
                      · intro w_
                        go_simp
                        with_reducible rfl
                      rotate_left
                      · simp only [Act.put, List.setIfInBounds_toArray, List.set_cons_zero, List.set_cons_succ, i64_w, i32_w]
                        rfl
                      refine one_ (i := 22) (N := some 131) #[true, true, true, true, true, true, true, true, true, true, true, true, true, true, true, true, true, true, true, true, true, true, true, false, false, false, false, false, false, false, false, false, false, false, false, false, false, false] rfl rfl (by kernel_rfl) (by decide) (fun K hK => ?_)
                      refine goes_ Try.func25 (by kernel_rfl) rfl #[.slice At (tuL rs ts j ts.length).length ct, .int .i64 (k : Int)] (by rfl) rfl rfl (by first | rfl | (simp only [List.map_toArray, List.map_cons, List.map_nil]; rfl) | simp) ?_
                      refine (has_calls At ct (tuL rs ts j ts.length) (k : Int) wv (Kd.C_below HCT.out HH.out)).mono ?_
                      rintro e wb ⟨rfl, rfl⟩
                      rw [HHS.out]
                      have B2 := Below.refl wv.heap.size wv
                      refine ⟨_, rfl, ?_⟩
                      have HH2 := Aside0.mk (HH.out.trans (B2.mono HH.out.size))
                      clear HH B2
                      have HH := HH2
                      clear HH2
                      refine hK.out _ _ HH.out (fun _ => ?_)
                      clear hK K
                      refine norm_ (a' := ?_) ?_ ?_
                      rotate_left
                      · show Act.put _ (some 131) _ = _
                        simp only [Act.put, List.setIfInBounds_toArray, List.set_cons_zero, List.set_cons_succ, i64_w, i32_w]
                        rfl
                      refine pure_ (i := 23) (N := some 132) (v := ?_) (a' := ?_) #[true, true, true, true, true, true, true, true, true, true, true, true, true, true, true, true, true, true, true, true, true, true, true, true, false, false, false, false, false, false, false, false, false, false, false, false, false, false] rfl rfl (by kernel_rfl) (fun _ _ _ h => h) (Or.inl ⟨by rfl, ?_⟩) ?_ ?_
                      rotate_left
                      · intro w_
                        go_simp
                        with_reducible rfl
                      rotate_left
                      · simp only [Act.put, List.setIfInBounds_toArray, List.set_cons_zero, List.set_cons_succ, i64_w, i32_w]
                        rfl
                      refine pure_ (i := 24) (N := some 133) (v := ?_) (a' := ?_) #[true, true, true, true, true, true, true, true, true, true, true, true, true, true, true, true, true, true, true, true, true, true, true, true, true, false, false, false, false, false, false, false, false, false, false, false, false, false] rfl rfl (by kernel_rfl) (fun _ _ _ h => h) (Or.inl ⟨by rfl, ?_⟩) ?_ ?_
                      rotate_left
                      · intro w_
                        go_simp
                        with_reducible rfl
                      rotate_left
                      · simp only [Act.put, List.setIfInBounds_toArray, List.set_cons_zero, List.set_cons_succ, i64_w, i32_w]
                        rfl
                      refine pure_ (i := 25) (N := some 134) (v := undef) (a' := ?_) #[true, true, true, true, true, true, true, true, true, true, true, true, true, true, true, true, true, true, true, true, true, true, true, true, true, true, false, false, false, false, false, false, false, false, false, false, false, false] rfl rfl (by kernel_rfl) (fun _ _ _ h => h) (Or.inr ⟨by rfl, rfl⟩) ?_ ?_
                      rotate_left
                      · simp only [Act.put, List.setIfInBounds_toArray, List.set_cons_zero, List.set_cons_succ, i64_w, i32_w]
                        rfl
                      refine pure_ (i := 26) (N := some 135) (v := undef) (a' := ?_) #[true, true, true, true, true, true, true, true, true, true, true, true, true, true, true, true, true, true, true, true, true, true, true, true, true, true, true, false, false, false, false, false, false, false, false, false, false, false] rfl rfl (by kernel_rfl) (fun _ _ _ h => h) (Or.inr ⟨by rfl, rfl⟩) ?_ ?_
                      rotate_left
                      · simp only [Act.put, List.setIfInBounds_toArray, List.set_cons_zero, List.set_cons_succ, i64_w, i32_w]
                        rfl
                      refine pure_ (i := 27) (N := some 136) (v := undef) (a' := ?_) #[true, true, true, true, true, true, true, true, true, true, true, true, true, true, true, true, true, true, true, true, true, true, true, true, true, true, true, true, false, false, false, false, false, false, false, false, false, false] rfl rfl (by kernel_rfl) (fun _ _ _ h => h) (Or.inr ⟨by rfl, rfl⟩) ?_ ?_
                      rotate_left
                      · simp only [Act.put, List.setIfInBounds_toArray, List.set_cons_zero, List.set_cons_succ, i64_w, i32_w]
                        rfl
                      refine pure_ (i := 28) (N := some 137) (v := undef) (a' := ?_) #[true, true, true, true, true, true, true, true, true, true, true, true, true, true, true, true, true, true, true, true, true, true, true, true, true, true, true, true, true, false, false, false, false, false, false, false, false, false] rfl rfl (by kernel_rfl) (fun _ _ _ h => h) (Or.inr ⟨by rfl, rfl⟩) ?_ ?_
                      rotate_left
                      · simp only [Act.put, List.setIfInBounds_toArray, List.set_cons_zero, List.set_cons_succ, i64_w, i32_w]
                        rfl
                      refine pure_ (i := 29) (N := some 138) (v := undef) (a' := ?_) #[true, true, true, true, true, true, true, true, true, true, true, true, true, true, true, true, true, true, true, true, true, true, true, true, true, true, true, true, true, true, false, false, false, false, false, false, false, false] rfl rfl (by kernel_rfl) (fun _ _ _ h => h) (Or.inr ⟨by rfl, rfl⟩) ?_ ?_
                      rotate_left
                      · simp only [Act.put, List.setIfInBounds_toArray, List.set_cons_zero, List.set_cons_succ, i64_w, i32_w]
                        rfl
                      refine pure_ (i := 30) (N := some 139) (v := undef) (a' := ?_) #[true, true, true, true, true, true, true, true, true, true, true, true, true, true, true, true, true, true, true, true, true, true, true, true, true, true, true, true, true, true, true, false, false, false, false, false, false, false] rfl rfl (by kernel_rfl) (fun _ _ _ h => h) (Or.inr ⟨by rfl, rfl⟩) ?_ ?_
                      rotate_left
                      · simp only [Act.put, List.setIfInBounds_toArray, List.set_cons_zero, List.set_cons_succ, i64_w, i32_w]
                        rfl
                      refine pure_ (i := 31) (N := some 140) (v := undef) (a' := ?_) #[true, true, true, true, true, true, true, true, true, true, true, true, true, true, true, true, true, true, true, true, true, true, true, true, true, true, true, true, true, true, true, true, false, false, false, false, false, false] rfl rfl (by kernel_rfl) (fun _ _ _ h => h) (Or.inr ⟨by rfl, rfl⟩) ?_ ?_
                      rotate_left
                      · simp only [Act.put, List.setIfInBounds_toArray, List.set_cons_zero, List.set_cons_succ, i64_w, i32_w]
                        rfl
                      refine pure_ (i := 32) (N := some 141) (v := undef) (a' := ?_) #[true, true, true, true, true, true, true, true, true, true, true, true, true, true, true, true, true, true, true, true, true, true, true, true, true, true, true, true, true, true, true, true, true, false, false, false, false, false] rfl rfl (by kernel_rfl) (fun _ _ _ h => h) (Or.inr ⟨by rfl, rfl⟩) ?_ ?_
                      rotate_left
                      · simp only [Act.put, List.setIfInBounds_toArray, List.set_cons_zero, List.set_cons_succ, i64_w, i32_w]
                        rfl
                      refine pure_ (i := 33) (N := some 142) (v := undef) (a' := ?_) #[true, true, true, true, true, true, true, true, true, true, true, true, true, true, true, true, true, true, true, true, true, true, true, true, true, true, true, true, true, true, true, true, true, true, false, false, false, false] rfl rfl (by kernel_rfl) (fun _ _ _ h => h) (Or.inr ⟨by rfl, rfl⟩) ?_ ?_
                      rotate_left
                      · simp only [Act.put, List.setIfInBounds_toArray, List.set_cons_zero, List.set_cons_succ, i64_w, i32_w]
                        rfl
                      refine pure_ (i := 34) (N := some 143) (v := undef) (a' := ?_) #[true, true, true, true, true, true, true, true, true, true, true, true, true, true, true, true, true, true, true, true, true, true, true, true, true, true, true, true, true, true, true, true, true, true, true, false, false, false] rfl rfl (by kernel_rfl) (fun _ _ _ h => h) (Or.inr ⟨by rfl, rfl⟩) ?_ ?_
                      rotate_left
                      · simp only [Act.put, List.setIfInBounds_toArray, List.set_cons_zero, List.set_cons_succ, i64_w, i32_w]
                        rfl
                      refine pure_ (i := 35) (N := some 144) (v := undef) (a' := ?_) #[true, true, true, true, true, true, true, true, true, true, true, true, true, true, true, true, true, true, true, true, true, true, true, true, true, true, true, true, true, true, true, true, true, true, true, true, false, false] rfl rfl (by kernel_rfl) (fun _ _ _ h => h) (Or.inr ⟨by rfl, rfl⟩) ?_ ?_
                      rotate_left
                      · simp only [Act.put, List.setIfInBounds_toArray, List.set_cons_zero, List.set_cons_succ, i64_w, i32_w]
                        rfl
                      refine pure_ (i := 36) (N := some 145) (v := ?_) (a' := ?_) #[true, true, true, true, true, true, true, true, true, true, true, true, true, true, true, true, true, true, true, true, true, true, true, true, true, true, true, true, true, true, true, true, true, true, true, true, true, false] rfl rfl (by kernel_rfl) (fun _ _ _ h => h) (Or.inl ⟨by rfl, ?_⟩) ?_ ?_
                      rotate_left
                      · intro w_
                        go_simp
                        with_reducible rfl
                      rotate_left
                      · simp only [Act.put, List.setIfInBounds_toArray, List.set_cons_zero, List.set_cons_succ, i64_w, i32_w]
                        rfl
                      refine pure_ (i := 37) (N := some 146) (v := ?_) (a' := ?_) #[true, true, true, true, true, true, true, true, true, true, true, true, true, true, true, true, true, true, true, true, true, true, true, true, true, true, true, true, true, true, true, true, true, true, true, true, true, true] rfl rfl (by kernel_rfl) (fun _ _ _ h => h) (Or.inl ⟨by rfl, ?_⟩) ?_ ?_
                      rotate_left
                      · intro w_
                        go_simp
                        with_reducible rfl
                      rotate_left
                      · simp only [Act.put, List.setIfInBounds_toArray, List.set_cons_zero, List.set_cons_succ, i64_w, i32_w]
                        rfl
                      refine done_ (by kernel_rfl) ?_
                      go_wp2_with fail
                      go_roundw
                      case rel => exact ⟨j + 1, HLT.out, by go_num, ⟨HB8.out.trans (HH.out.mono HB8.out.size)⟩⟩
                      case measure => have := HLT.out; simp [intOf]; omega
                · have hd : decide ((j : Int) < (rs.length : Int)) = false := decide_eq_false (by omega)
                  go_wp2_with fail
                  clear y0 hd hjl hj
                  go_loopw [16] (fun i wr => ∃ j : Nat, j ≤ ts.length ∧ i = .int .i64 j ∧ Aside0 (Below w7.heap.size w7 wr)) (fun i _ => ts.length - (intOf i).toNat)
                  case atStart => exact ⟨0, by omega, rfl, HW⟩
                  case round =>
                    as_aux_lemma =>
                      clear HW
                      obtain ⟨j, hj, rfl, HW⟩ := hrel
                      obtain ⟨wo, rfl⟩ : ∃ wo : World, wo = wr := ⟨_, rfl⟩
                      have y2 := (HW.out.cell (World.block_lt_of_cell? w7 _ HY.out.2.1)).trans HY.out.2.1
                      have z2 := (HW.out.cell (World.block_lt_of_cell? w7 _ HY.out.2.2.2)).trans HY.out.2.2.2
                      by_cases hjl : j < ts.length
                      · have hd : decide ((j : Int) < (ts.length : Int)) = true := decide_eq_true (by omega)
                        have HLT := Aside0.mk (Nat.succ_le_of_lt hjl)
                        obtain ⟨aa, eA, hca⟩ := (Kd.reads_of_C (d := (0 : Int)) (Kd.C_below HC7.out.2 HW.out)).2.2 (by rw [HL2.out.2.2.1]; omega)
                        obtain ⟨ab, eB, hcb⟩ := (Kd.reads_of_C (d := (0 : Int)) (Kd.C_below HD7.out.2 HW.out)).2.2 (by rw [HL2.out.2.2.2]; omega)
                        have hxa := hca j (by rw [HL2.out.2.2.1]; exact hjl)
                        have hxb := hcb j (by rw [HL2.out.2.2.2]; exact hjl)
                        obtain ⟨hle, hown⟩ := HL8.out j hjl
                        obtain ⟨ad2, A5b, c5b, eA2, h1, _, _, _⟩ := task_g (H7.out.good.cfg.below HW.out).t j hjl
                        injection eA2 with eA2
                        subst eA2 eA eB
                        have q11 := (H7.out.box.below HW.out).tasks
                        generalize R.l2.getD j 0 = a at *
                        generalize R2.l2.getD j 0 = b at *
                        obtain ⟨pp, hpp⟩ : ∃ pp, (ts.getD j z64).f1 = pp := ⟨_, rfl⟩
                        rw [hpp] at h1 hown
                        have hba : decide (b < a) = false := decide_eq_false (by omega)
                        have hap : decide (a < pp) = false := decide_eq_false (by omega)
                        clear hca hcb hpp hle hown
                        go_wp2_with fail
                        refine start_ (n := 25) (S := fun w_ => Below wo.heap.size wo w_) (ds := []) #[false, false, false, false, false, false, false, false, false, false, false, false, false, false, false, false, false, false, false, false, false, false, false, false, false] (by kernel_rfl) rfl rfl (drew_below wo) (fun hHeld => ?_)
                        have HH := Aside0.mk hHeld
                        clear hHeld
                        generalize wo.drew = wv at HH ⊢
                        refine pure_ (i := 0) (N := some 154) (v := ?_) (a' := ?_) #[true, false, false, false, false, false, false, false, false, false, false, false, false, false, false, false, false, false, false, false, false, false, false, false, false] rfl rfl (by kernel_rfl) (fun _ _ _ h => h) (Or.inl ⟨by rfl, ?_⟩) ?_ ?_
                        rotate_left
                        · intro w_
                          go_simp
                          with_reducible rfl
                        rotate_left
                        · simp only [Act.put, List.setIfInBounds_toArray, List.set_cons_zero, List.set_cons_succ, i64_w, i32_w]
                          rfl
                        refine take_ (i := 1) (N := some 155) (v := ?_) (a' := ?_) #[true, true, false, false, false, false, false, false, false, false, false, false, false, false, false, false, false, false, false, false, false, false, false, false, false] rfl rfl (by kernel_rfl) (fun _ _ _ h => h) (Or.inl ⟨by rfl, ?_⟩) HH.out ?_ ?_
                        rotate_left
                        · rintro w_ s
                          have y2 := (s.cell (World.block_lt_of_cell? wo _ y2)).trans y2; have z2 := (s.cell (World.block_lt_of_cell? wo _ z2)).trans z2; have q11 := (s.cell (World.block_lt_of_cell? wo _ q11)).trans q11; have h1 := (s.cell (World.block_lt_of_cell? wo _ h1)).trans h1; have hxa := (s.cell (World.block_lt_of_cell? wo _ hxa)).trans hxa; have hxb := (s.cell (World.block_lt_of_cell? wo _ hxb)).trans hxb
                          go_simp
                          with_reducible rfl
                        rotate_left
                        · simp only [Act.put, List.setIfInBounds_toArray, List.set_cons_zero, List.set_cons_succ, i64_w, i32_w]
                          rfl
                        refine pure_ (i := 2) (N := some 156) (v := ?_) (a' := ?_) #[true, true, true, false, false, false, false, false, false, false, false, false, false, false, false, false, false, false, false, false, false, false, false, false, false] rfl rfl (by kernel_rfl) (fun _ _ _ h => h) (Or.inl ⟨by rfl, ?_⟩) ?_ ?_
                        rotate_left
                        · intro w_
                          go_simp
                          with_reducible rfl
                        rotate_left
                        · simp only [Act.put, List.setIfInBounds_toArray, List.set_cons_zero, List.set_cons_succ, i64_w, i32_w]
                          rfl
                        refine pure_ (i := 3) (N := some 157) (v := ?_) (a' := ?_) #[true, true, true, true, false, false, false, false, false, false, false, false, false, false, false, false, false, false, false, false, false, false, false, false, false] rfl rfl (by kernel_rfl) (fun _ _ _ h => h) (Or.inl ⟨by rfl, ?_⟩) ?_ ?_
                        rotate_left
                        · intro w_
                          go_simp
                          with_reducible rfl
                        rotate_left
                        · simp only [Act.put, List.setIfInBounds_toArray, List.set_cons_zero, List.set_cons_succ, i64_w, i32_w]
                          rfl
                        refine take_ (i := 4) (N := some 158) (v := ?_) (a' := ?_) #[true, true, true, true, true, false, false, false, false, false, false, false, false, false, false, false, false, false, false, false, false, false, false, false, false] rfl rfl (by kernel_rfl) (fun _ _ _ h => h) (Or.inl ⟨by rfl, ?_⟩) HH.out ?_ ?_
                        rotate_left
                        · rintro w_ s
                          have y2 := (s.cell (World.block_lt_of_cell? wo _ y2)).trans y2; have z2 := (s.cell (World.block_lt_of_cell? wo _ z2)).trans z2; have q11 := (s.cell (World.block_lt_of_cell? wo _ q11)).trans q11; have h1 := (s.cell (World.block_lt_of_cell? wo _ h1)).trans h1; have hxa := (s.cell (World.block_lt_of_cell? wo _ hxa)).trans hxa; have hxb := (s.cell (World.block_lt_of_cell? wo _ hxb)).trans hxb
                          go_simp
                          with_reducible rfl
                        rotate_left
                        · simp only [Act.put, List.setIfInBounds_toArray, List.set_cons_zero, List.set_cons_succ, i64_w, i32_w]
                          rfl
                        refine pure_ (i := 5) (N := some 159) (v := ?_) (a' := ?_) #[true, true, true, true, true, true, false, false, false, false, false, false, false, false, false, false, false, false, false, false, false, false, false, false, false] rfl rfl (by kernel_rfl) (fun _ _ _ h => h) (Or.inl ⟨by rfl, ?_⟩) ?_ ?_
                        rotate_left
                        · intro w_
                          go_simp
                          with_reducible rfl
                        rotate_left
                        · simp only [Act.put, List.setIfInBounds_toArray, List.set_cons_zero, List.set_cons_succ, i64_w, i32_w]
                          rfl
                        refine take_ (i := 6) (N := some 160) (v := ?_) (a' := ?_) #[true, true, true, true, true, true, true, false, false, false, false, false, false, false, false, false, false, false, false, false, false, false, false, false, false] rfl rfl (by kernel_rfl) (fun _ _ _ h => h) (Or.inl ⟨by rfl, ?_⟩) HH.out ?_ ?_
                        rotate_left
                        · rintro w_ s
                          have y2 := (s.cell (World.block_lt_of_cell? wo _ y2)).trans y2; have z2 := (s.cell (World.block_lt_of_cell? wo _ z2)).trans z2; have q11 := (s.cell (World.block_lt_of_cell? wo _ q11)).trans q11; have h1 := (s.cell (World.block_lt_of_cell? wo _ h1)).trans h1; have hxa := (s.cell (World.block_lt_of_cell? wo _ hxa)).trans hxa; have hxb := (s.cell (World.block_lt_of_cell? wo _ hxb)).trans hxb
                          go_simp
                          with_reducible rfl
                        rotate_left
                        · simp only [Act.put, List.setIfInBounds_toArray, List.set_cons_zero, List.set_cons_succ, i64_w, i32_w]
                          rfl
                        refine pure_ (i := 7) (N := some 161) (v := ?_) (a' := ?_) #[true, true, true, true, true, true, true, true, false, false, false, false, false, false, false, false, false, false, false, false, false, false, false, false, false] rfl rfl (by kernel_rfl) (fun _ _ _ h => h) (Or.inl ⟨by rfl, ?_⟩) ?_ ?_
                        rotate_left
                        · intro w_
                          go_simp
                          with_reducible rfl
                        rotate_left
                        · simp only [Act.put, List.setIfInBounds_toArray, List.set_cons_zero, List.set_cons_succ, i64_w, i32_w]
                          rfl
                        refine pure_ (i := 8) (N := some 162) (v := ?_) (a' := ?_) #[true, true, true, true, true, true, true, true, true, false, false, false, false, false, false, false, false, false, false, false, false, false, false, false, false] rfl rfl (by kernel_rfl) (fun _ _ _ h => h) (Or.inl ⟨by rfl, ?_⟩) ?_ ?_
                        rotate_left
                        · intro w_
                          go_simp
                          with_reducible rfl
                        rotate_left
                        · simp only [Act.put, List.setIfInBounds_toArray, List.set_cons_zero, List.set_cons_succ, i64_w, i32_w]
                          rfl
                        refine take_ (i := 9) (N := some 163) (v := ?_) (a' := ?_) #[true, true, true, true, true, true, true, true, true, true, false, false, false, false, false, false, false, false, false, false, false, false, false, false, false] rfl rfl (by kernel_rfl) (fun _ _ _ h => h) (Or.inl ⟨by rfl, ?_⟩) HH.out ?_ ?_
                        rotate_left
                        · rintro w_ s
                          have y2 := (s.cell (World.block_lt_of_cell? wo _ y2)).trans y2; have z2 := (s.cell (World.block_lt_of_cell? wo _ z2)).trans z2; have q11 := (s.cell (World.block_lt_of_cell? wo _ q11)).trans q11; have h1 := (s.cell (World.block_lt_of_cell? wo _ h1)).trans h1; have hxa := (s.cell (World.block_lt_of_cell? wo _ hxa)).trans hxa; have hxb := (s.cell (World.block_lt_of_cell? wo _ hxb)).trans hxb
                          go_simp
                          with_reducible rfl
                        rotate_left
                        · simp only [Act.put, List.setIfInBounds_toArray, List.set_cons_zero, List.set_cons_succ, i64_w, i32_w]
                          rfl
                        refine pure_ (i := 10) (N := some 164) (v := ?_) (a' := ?_) #[true, true, true, true, true, true, true, true, true, true, true, false, false, false, false, false, false, false, false, false, false, false, false, false, false] rfl rfl (by kernel_rfl) (fun _ _ _ h => h) (Or.inl ⟨by rfl, ?_⟩) ?_ ?_
                        rotate_left
                        · intro w_
                          go_simp
                          with_reducible rfl
                        rotate_left
                        · simp only [Act.put, List.setIfInBounds_toArray, List.set_cons_zero, List.set_cons_succ, i64_w, i32_w]
                          rfl
                        refine pure_ (i := 11) (N := some 165) (v := ?_) (a' := ?_) #[true, true, true, true, true, true, true, true, true, true, true, true, false, false, false, false, false, false, false, false, false, false, false, false, false] rfl rfl (by kernel_rfl) (fun _ _ _ h => h) (Or.inl ⟨by rfl, ?_⟩) ?_ ?_
                        rotate_left
                        · intro w_
                          go_simp
                          with_reducible rfl
                        rotate_left
                        · simp only [Act.put, List.setIfInBounds_toArray, List.set_cons_zero, List.set_cons_succ, i64_w, i32_w]
                          rfl
                        refine pure_ (i := 12) (N := some 166) (v := ?_) (a' := ?_) #[true, true, true, true, true, true, true, true, true, true, true, true, true, false, false, false, false, false, false, false, false, false, false, false, false] rfl rfl (by kernel_rfl) (fun _ _ _ h => h) (Or.inl ⟨by rfl, ?_⟩) ?_ ?_
                        rotate_left
                        · intro w_
                          go_simp
                          with_reducible rfl
                        rotate_left
                        · simp only [Act.put, List.setIfInBounds_toArray, List.set_cons_zero, List.set_cons_succ, i64_w, i32_w]
                          rfl
                        refine take_ (i := 13) (N := some 167) (v := ?_) (a' := ?_) #[true, true, true, true, true, true, true, true, true, true, true, true, true, true, false, false, false, false, false, false, false, false, false, false, false] rfl rfl (by kernel_rfl) (fun _ _ _ h => h) (Or.inl ⟨by rfl, ?_⟩) HH.out ?_ ?_
                        rotate_left
                        · rintro w_ s
                          have y2 := (s.cell (World.block_lt_of_cell? wo _ y2)).trans y2; have z2 := (s.cell (World.block_lt_of_cell? wo _ z2)).trans z2; have q11 := (s.cell (World.block_lt_of_cell? wo _ q11)).trans q11; have h1 := (s.cell (World.block_lt_of_cell? wo _ h1)).trans h1; have hxa := (s.cell (World.block_lt_of_cell? wo _ hxa)).trans hxa; have hxb := (s.cell (World.block_lt_of_cell? wo _ hxb)).trans hxb
                          go_simp
                          with_reducible rfl
                        rotate_left
                        · simp only [Act.put, List.setIfInBounds_toArray, List.set_cons_zero, List.set_cons_succ, i64_w, i32_w]
                          rfl
                        refine pure_ (i := 14) (N := some 168) (v := ?_) (a' := ?_) #[true, true, true, true, true, true, true, true, true, true, true, true, true, true, true, false, false, false, false, false, false, false, false, false, false] rfl rfl (by kernel_rfl) (fun _ _ _ h => h) (Or.inl ⟨by rfl, ?_⟩) ?_ ?_
                        rotate_left
                        · intro w_
                          go_simp
                          with_reducible rfl
                        rotate_left
                        · simp only [Act.put, List.setIfInBounds_toArray, List.set_cons_zero, List.set_cons_succ, i64_w, i32_w]
                          rfl
                        refine pure_ (i := 15) (N := some 169) (v := ?_) (a' := ?_) #[true, true, true, true, true, true, true, true, true, true, true, true, true, true, true, true, false, false, false, false, false, false, false, false, false] rfl rfl (by kernel_rfl) (fun _ _ _ h => h) (Or.inl ⟨by rfl, ?_⟩) ?_ ?_
                        rotate_left
                        · intro w_
                          go_simp
                          with_reducible rfl
                        rotate_left
                        · simp only [Act.put, List.setIfInBounds_toArray, List.set_cons_zero, List.set_cons_succ, i64_w, i32_w]
                          rfl
                        refine take_ (i := 16) (N := some 170) (v := ?_) (a' := ?_) #[true, true, true, true, true, true, true, true, true, true, true, true, true, true, true, true, true, false, false, false, false, false, false, false, false] rfl rfl (by kernel_rfl) (fun _ _ _ h => h) (Or.inl ⟨by rfl, ?_⟩) HH.out ?_ ?_
                        rotate_left
                        · rintro w_ s
                          have y2 := (s.cell (World.block_lt_of_cell? wo _ y2)).trans y2; have z2 := (s.cell (World.block_lt_of_cell? wo _ z2)).trans z2; have q11 := (s.cell (World.block_lt_of_cell? wo _ q11)).trans q11; have h1 := (s.cell (World.block_lt_of_cell? wo _ h1)).trans h1; have hxa := (s.cell (World.block_lt_of_cell? wo _ hxa)).trans hxa; have hxb := (s.cell (World.block_lt_of_cell? wo _ hxb)).trans hxb
                          go_simp
                          with_reducible rfl
                        rotate_left
                        · simp only [Act.put, List.setIfInBounds_toArray, List.set_cons_zero, List.set_cons_succ, i64_w, i32_w]
                          rfl
                        refine pure_ (i := 17) (N := some 171) (v := ?_) (a' := ?_) #[true, true, true, true, true, true, true, true, true, true, true, true, true, true, true, true, true, true, false, false, false, false, false, false, false] rfl rfl (by kernel_rfl) (fun _ _ _ h => h) (Or.inl ⟨by rfl, ?_⟩) ?_ ?_
                        rotate_left
                        · intro w_
                          go_simp
                          with_reducible rfl
                        rotate_left
                        · simp only [Act.put, List.setIfInBounds_toArray, List.set_cons_zero, List.set_cons_succ, i64_w, i32_w]
                          rfl
                        refine take_ (i := 18) (N := some 172) (v := ?_) (a' := ?_) #[true, true, true, true, true, true, true, true, true, true, true, true, true, true, true, true, true, true, true, false, false, false, false, false, false] rfl rfl (by kernel_rfl) (fun _ _ _ h => h) (Or.inl ⟨by rfl, ?_⟩) HH.out ?_ ?_
                        rotate_left
                        · rintro w_ s
                          have y2 := (s.cell (World.block_lt_of_cell? wo _ y2)).trans y2; have z2 := (s.cell (World.block_lt_of_cell? wo _ z2)).trans z2; have q11 := (s.cell (World.block_lt_of_cell? wo _ q11)).trans q11; have h1 := (s.cell (World.block_lt_of_cell? wo _ h1)).trans h1; have hxa := (s.cell (World.block_lt_of_cell? wo _ hxa)).trans hxa; have hxb := (s.cell (World.block_lt_of_cell? wo _ hxb)).trans hxb
                          go_simp
                          with_reducible rfl
                        rotate_left
                        · simp only [Act.put, List.setIfInBounds_toArray, List.set_cons_zero, List.set_cons_succ, i64_w, i32_w]
                          rfl
                        refine pure_ (i := 19) (N := some 173) (v := ?_) (a' := ?_) #[true, true, true, true, true, true, true, true, true, true, true, true, true, true, true, true, true, true, true, true, false, false, false, false, false] rfl rfl (by kernel_rfl) (fun _ _ _ h => h) (Or.inl ⟨by rfl, ?_⟩) ?_ ?_
                        rotate_left
                        · intro w_
                          go_simp
                          with_reducible rfl
                        rotate_left
                        · simp only [Act.put, List.setIfInBounds_toArray, List.set_cons_zero, List.set_cons_succ, i64_w, i32_w]
                          rfl
                        refine pure_ (i := 20) (N := some 174) (v := ?_) (a' := ?_) #[true, true, true, true, true, true, true, true, true, true, true, true, true, true, true, true, true, true, true, true, true, false, false, false, false] rfl rfl (by kernel_rfl) (fun _ _ _ h => h) (Or.inl ⟨by rfl, ?_⟩) ?_ ?_
                        rotate_left
                        · intro w_
                          go_simp
                          with_reducible rfl
                        rotate_left
                        · simp only [Act.put, List.setIfInBounds_toArray, List.set_cons_zero, List.set_cons_succ, i64_w, i32_w]
                          rfl
                        refine pure_ (i := 21) (N := some 175) (v := ?_) (a' := ?_) #[true, true, true, true, true, true, true, true, true, true, true, true, true, true, true, true, true, true, true, true, true, true, false, false, false] rfl rfl (by kernel_rfl) (fun _ _ _ h => h) (Or.inl ⟨by rfl, ?_⟩) ?_ ?_
                        rotate_left
                        · intro w_
                          go_simp
                          with_reducible rfl
                        rotate_left
                        · simp only [Act.put, List.setIfInBounds_toArray, List.set_cons_zero, List.set_cons_succ, i64_w, i32_w]
                          rfl
                        refine take_ (i := 22) (N := some 176) (v := ?_) (a' := ?_) #[true, true, true, true, true, true, true, true, true, true, true, true, true, true, true, true, true, true, true, true, true, true, true, false, false] rfl rfl (by kernel_rfl) (fun _ _ _ h => h) (Or.inl ⟨by rfl, ?_⟩) HH.out ?_ ?_
                        rotate_left
                        · rintro w_ s
                          have y2 := (s.cell (World.block_lt_of_cell? wo _ y2)).trans y2; have z2 := (s.cell (World.block_lt_of_cell? wo _ z2)).trans z2; have q11 := (s.cell (World.block_lt_of_cell? wo _ q11)).trans q11; have h1 := (s.cell (World.block_lt_of_cell? wo _ h1)).trans h1; have hxa := (s.cell (World.block_lt_of_cell? wo _ hxa)).trans hxa; have hxb := (s.cell (World.block_lt_of_cell? wo _ hxb)).trans hxb
                          go_simp
                          with_reducible rfl
                        rotate_left
                        · simp only [Act.put, List.setIfInBounds_toArray, List.set_cons_zero, List.set_cons_succ, i64_w, i32_w]
                          rfl
                        refine pure_ (i := 23) (N := some 177) (v := ?_) (a' := ?_) #[true, true, true, true, true, true, true, true, true, true, true, true, true, true, true, true, true, true, true, true, true, true, true, true, false] rfl rfl (by kernel_rfl) (fun _ _ _ h => h) (Or.inl ⟨by rfl, ?_⟩) ?_ ?_
                        rotate_left
                        · intro w_
                          go_simp
                          with_reducible rfl
                        rotate_left
                        · simp only [Act.put, List.setIfInBounds_toArray, List.set_cons_zero, List.set_cons_succ, i64_w, i32_w]
                          rfl
                        refine pure_ (i := 24) (N := some 178) (v := ?_) (a' := ?_) #[true, true, true, true, true, true, true, true, true, true, true, true, true, true, true, true, true, true, true, true, true, true, true, true, true] rfl rfl (by kernel_rfl) (fun _ _ _ h => h) (Or.inl ⟨by rfl, ?_⟩) ?_ ?_
                        rotate_left
                        · intro w_
                          go_simp
                          with_reducible rfl
                        rotate_left
                        · simp only [Act.put, List.setIfInBounds_toArray, List.set_cons_zero, List.set_cons_succ, i64_w, i32_w]
                          rfl
                        refine done_ (by kernel_rfl) ?_
                        go_wp2_with fail
                        go_roundw
                        case rel => exact ⟨j + 1, HLT.out, by go_num, ⟨HW.out.trans (HH.out.mono HW.out.size)⟩⟩
                        case measure => have := HLT.out; simp [intOf]; omega
                      · have hd : decide ((j : Int) < (ts.length : Int)) = false := decide_eq_false (by omega)
                        go_wp2_with fail
                        refine (alive_calls _).mono ?_
                        rintro e wb ⟨rfl, Bb⟩
                        go_wp2_with fail
                        go_ret
                        exact ⟨rfl, (H7.out.bel.trans (HW.out.mono H7.out.bel.size)).trans (Bb.mono (H7.out.bel.trans (HW.out.mono H7.out.bel.size)).size)⟩
        · as_aux_lemma =>
            have hd3 : decide (1073741824 < f) = true := decide_eq_true (by omega)
            go_wp2_with fail
            refine (num_calls _ _).mono ?_
            rintro e w' ⟨rfl, rfl⟩
            go_wp2_with fail
            refine (alive_calls _).mono ?_
            rintro e wb ⟨rfl, Bb⟩
            go_wp2_with fail
            go_ret
            exact ⟨rfl, H2.out.bel.trans (Bb.mono H2.out.bel.size)⟩
      · as_aux_lemma =>
          have hd2 : decide ((ts.length : Int) ≤ (k : Int)) = true := decide_eq_true (by omega)
          go_wp2_with fail
          refine (num_calls _ _).mono ?_
          rintro e w' ⟨rfl, rfl⟩
          go_wp2_with fail
          refine (alive_calls _).mono ?_
          rintro e wb ⟨rfl, Bb⟩
          go_wp2_with fail
          go_ret
          exact ⟨rfl, H2.out.bel.trans (Bb.mono H2.out.bel.size)⟩
  · as_aux_lemma =>
      have hb : (R.er != 0) = true := by simp [he]
      go_wp2_with fail
      refine (num_calls _ _).mono ?_
      rintro e w' ⟨rfl, rfl⟩
      go_wp2_with fail
      refine (alive_calls _).mono ?_
      rintro e wb ⟨rfl, Bb⟩
      go_wp2_with fail
      go_ret
      exact ⟨rfl, H2.out.bel.trans (Bb.mono H2.out.bel.size)⟩
end Go.Proofs.Ytflkbheginhfiaa.XA
