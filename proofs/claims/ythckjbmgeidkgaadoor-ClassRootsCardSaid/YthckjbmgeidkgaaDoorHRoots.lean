/- ClassRoots. -/
import Derived.Test.YthckjbmgeidkgaaDoorHHeads
namespace Go.Proofs.YthckjbmgeidkgaaDoor.XA
set_option linter.unusedVariables false
set_option linter.unusedSimpArgs false
open Go.RowKit Go.WideMaps Go.Maps Go.Proofs.YthckjbmgeidkgaaDoorW.PrintWords Go.Proofs.YthckjbmgeidkgaaDoorW.PrintLast Go.Proofs.YthckjbmgeidkgaaDoorW.PrintMore
theorem rootI_in (rs : List S65) : ∀ (m : Nat) (q : Int), rootI rs m q = -1 ∨ (0 ≤ rootI rs m q ∧ rootI rs m q < rs.length ∧ kindR rs (rootI rs m q).toNat ≠ 2)
  | 0, q => .inl rfl
  | m + 1, q => by
    unfold rootI
    by_cases h : q < 0 ∨ (rs.length : Int) ≤ q
    · rw [if_pos h]
      exact .inl rfl
    · rw [if_neg h]
      by_cases h2 : kindR rs q.toNat ≠ 2
      · rw [if_pos h2]
        exact .inr ⟨by omega, by omega, h2⟩
      · rw [if_neg h2]
        exact rootI_in rs m _
theorem rootI_up (rs : List S65) : ∀ (m : Nat) (q : Int), 0 ≤ rootI rs m q → rootI rs (m + 1) q = rootI rs m q
  | 0, q, h => by simp [rootI] at h
  | m + 1, q, h => by
    rw [rootI] at h ⊢
    by_cases h1 : q < 0 ∨ (rs.length : Int) ≤ q
    · rw [if_pos h1] at h
      omega
    · rw [if_neg h1] at h ⊢
      by_cases h2 : kindR rs q.toNat ≠ 2
      · rw [if_pos h2, rootI, if_neg h1, if_pos h2]
      · rw [if_neg h2] at h ⊢
        rw [rootI_up rs m _ h, rootI, if_neg h1, if_neg h2]
theorem rootV_len (rs : List S65) : rootV rs (rs.length : Int) = -1 := by
  unfold rootV rootI
  rw [if_pos (.inr (by omega))]
theorem rootV_neg (rs : List S65) : rootV rs (-1) = -1 := by
  unfold rootV rootI
  rw [if_pos (.inl (by omega))]
theorem res_fine {c : S33} (h : verV c = okVer) (i : Nat) (hi : i < c.f4.length) : resVal (c.f4.getD i z65) = true ∧ resLink c.f4.length (c.f4.getD i z65) = true ∧ resEnds c.f4 i = true := by
  have hk := (ver_fine h kind3 (by simp [kinds])).chk i hi
  have h1 := hk eResVal (by simp [kind3])
  have h2 := hk eResLink (by simp [kind3])
  have h3 := hk eResEnds (by simp [kind3])
  unfold eResVal at h1
  unfold eResLink at h2
  unfold eResEnds at h3
  refine ⟨?_, ?_, ?_⟩
  · by_cases h : resVal (c.f4.getD i z65) = true
    · exact h
    · rw [if_neg h] at h1; cases h1
  · by_cases h : resLink c.f4.length (c.f4.getD i z65) = true
    · exact h
    · rw [if_neg h] at h2; cases h2
  · by_cases h : resEnds c.f4 i = true
    · exact h
    · rw [if_neg h] at h3; cases h3
theorem roots_ok {c : S33} (h : verV c = okVer) (i : Nat) (hi : i < c.f4.length) : ∃ y : Nat, rootV c.f4 i = (y : Int) ∧ y < c.f4.length ∧ kindR c.f4 y ≠ 2 ∧ (kindR c.f4 i = 2 → rootV c.f4 (linkR c.f4 i) = (y : Int)) ∧ (kindR c.f4 i ≠ 2 → y = i) := by
  obtain ⟨_, _, h3⟩ := res_fine h i hi
  have hin : ¬ ((i : Int) < 0 ∨ (c.f4.length : Int) ≤ (i : Int)) := by omega
  by_cases hk : kindR c.f4 i = 2
  · unfold resEnds at h3
    rw [hk] at h3
    simp only [bne_self_eq_false, Bool.false_or, Bool.and_eq_true, decide_eq_true_eq] at h3
    have h0 := h3.1
    rcases rootI_in c.f4 (c.f4.length + 1) (i : Int) with h4 | ⟨h5, h6, h7⟩
    · unfold rootV at h0
      omega
    · refine ⟨(rootV c.f4 i).toNat, by omega, by unfold rootV; omega, h7, fun _ => ?_, fun hn => absurd hk hn⟩
      have h8 : rootV c.f4 (i : Int) = rootI c.f4 c.f4.length (linkR c.f4 i) := by
        unfold rootV
        rw [rootI, if_neg hin, Int.toNat_natCast, if_neg (by simp [hk])]
      rw [h8] at h0 ⊢
      unfold rootV
      rw [rootI_up c.f4 c.f4.length _ h0]
      omega
  · have h8 : rootV c.f4 (i : Int) = (i : Int) := by
      unfold rootV
      rw [rootI, if_neg hin, Int.toNat_natCast, if_pos hk]
    exact ⟨i, h8, hi, hk, fun h => absurd h hk, fun _ => rfl⟩
set_option maxRecDepth 1000000 in
set_option maxHeartbeats 4000000 in
theorem roots_calls (V : CV) (c : S33) (w : World) (h : Cf w V c) (hg : GlobAt w) : Calls Tryd.prog 6 #[.agg (arr V c)] w fun e w' => e = .returned (.bool true) ∧ Below w.heap.size w w' := by
  have HG := Aside0.mk (hg.below (below_a w (.cells (arr V c) 33)))
  have HA := Aside0.mk (At.made h)
  have HB := Aside0.mk (below_a w (.cells (arr V c) 33))
  have hlen := h.bd.r
  clear h hg
  go_enter Tryd.func6, Tryd.ntmps6
  unfold arr at *
  go_wp2_with (refine load33 HA.out rfl (.tmp 1) rfl rfl ?_)
  generalize w.alloc (.cells #[.string c.f0, .string c.f1.f0, .bool c.f1.f1, .bool c.f1.f2, .bool c.f1.f3, .bool c.f1.f4, .bool c.f1.f5, .bool c.f1.f6, .bool c.f1.f7, .bool c.f1.f8, .slice V.a10 c.f2.length V.k10, .slice V.a11 c.f3.length V.k11, .slice V.a12 c.f4.length V.k12, .slice V.a13 c.f5.length V.k13, .slice V.a14 c.f6.length V.k14, .slice V.a15 c.f7.length V.k15, .slice V.a16 c.f8.length V.k16, .slice V.a17 c.f9.length V.k17] 33) = w1 at *
  have hck := check_v V c w1 HA.out.cf HG.out
  unfold arr at hck
  refine hck.mono ?_
  clear hck
  rintro e w2 ⟨rfl, B2⟩
  have HA2 := Aside0.mk (HA.out.below B2)
  have HG2 := Aside0.mk (HG.out.below B2)
  have HB2 := Aside0.mk (HB.out.trans (B2.mono HB.out.size))
  have HOK := Aside0.mk (fun (hv : verV c = okVer) i (hi : i < c.f4.length) => roots_ok hv i hi)
  clear B2 HA HB HG
  generalize verV c = v at *
  rcases he : eqV v okVer with _ | _
  · have hne : (!eqV v okVer) = true := by rw [he]; rfl
    clear HOK
    go_wp2_with (refine Kd.event_run rfl (v := .bool true) (hne ▸ run_neq36 _ v okVer (.tmp 6) (.tmp 7) rfl rfl rfl) ?_)
    refine (heads_calls w2 HG2.out).mono ?_
    rintro e w3 ⟨rfl, B3⟩
    go_wp2_with fail
    go_ret
    exact ⟨rfl, HB2.out.trans (B3.mono HB2.out.size)⟩
  · have hne : (!eqV v okVer) = false := by rw [he]; rfl
    have HOK := Aside0.mk (HOK.out (eqV_iff.mp he))
    go_wp2_with (refine Kd.event_run rfl (v := .bool false) (hne ▸ run_neq36 _ v okVer (.tmp 6) (.tmp 7) rfl rfl rfl) ?_)
    clear hne he
    go_loopw [3] (fun iv wr => ∃ i : Nat, i ≤ c.f4.length ∧ iv = .int .i64 i ∧ Aside0 (Below w.heap.size w wr) ∧ Aside0 (At wr w.heap.size V c) ∧ Aside0 (GlobAt wr)) (fun iv _ => c.f4.length - (intOf iv).toNat)
    case atStart => exact ⟨0, by omega, rfl, HB2, HA2, HG2⟩
    case round =>
      clear HB2 HA2 HG2
      obtain ⟨i, hi, rfl, HB, HA, HG⟩ := hrel
      have q12 := HA.out.cell12
      by_cases hlt : i < c.f4.length
      · have hd : decide ((i : Int) < (c.f4.length : Int)) = true := decide_eq_true (by omega)
        go_wp2_with (refine load33 HA.out rfl (.tmp 1) rfl rfl ?_)
        have hx := root_calls V c (i : Int) wr HA.out.cf
        unfold arr at hx
        refine hx.mono ?_
        clear hx q12
        rintro e w3 ⟨rfl, B3⟩
        have HB3 := Aside0.mk (HB.out.trans (B3.mono HB.out.size))
        have HA3 := Aside0.mk (HA.out.below B3)
        have HG3 := Aside0.mk (HG.out.below B3)
        clear B3 HB HA HG
        obtain ⟨y, hy, hyl, hy2, hy3, hy4⟩ := HOK.out i hlt
        rw [hy]
        obtain ⟨t, ad, ht, e12, HT⟩ := res_at HA3.out.cf.r i hlt
        obtain ⟨u, ad2, hu, e12', HU⟩ := res_at HA3.out.cf.r y hyl
        rw [e12] at e12'
        injection e12' with e12'
        subst e12'
        have q12 := HA3.out.cell12
        rw [e12] at q12
        have g1 := HT.g1
        have g2 := HT.g2
        have k1 := HU.g1
        unfold kindR at hy2 hy3 hy4
        unfold linkR at hy3
        rw [ht] at hy3 hy4
        rw [hu] at hy2
        have hb2 : (u.f1 == 2) = false := by rw [beq_eq_false_iff_ne]; exact hy2
        have hd0 : decide ((y : Int) < 0) = false := decide_eq_false (by omega)
        have hd1 : decide ((c.f4.length : Int) ≤ (y : Int)) = false := decide_eq_false (by omega)
        have HY3 := Aside0.mk hy3
        have HY4 := Aside0.mk hy4
        clear hy hy2 hy3 hy4 ht hu e12 HT HU
        generalize u.f1 = uk at *
        generalize hlk : t.f2 = lk at *
        generalize hkd : t.f1 = kd at *
        go_wp2_with fail
        rcases hk : (kd == 2) with _ | _
        · have HYI := Aside0.mk (HY4.out (by rw [beq_eq_false_iff_ne] at hk; exact hk))
          have hbn : (kd != 2) = true := by rw [bne, hk]; rfl
          have hyi : ((y : Int) != (i : Int)) = false := by rw [HYI.out]; simp
          clear HY3 HY4
          obtain ⟨w4, rfl⟩ : ∃ w4 : World, w4 = w3 := ⟨_, rfl⟩
          go_quiet (fail)
          go_wp2_with fail
          trace_state
          go_roundw
          case rel => exact ⟨i + 1, by omega, by go_num, ⟨HB3.out.trans ((drewN_below _ _).mono HB3.out.size)⟩, ⟨HA3.out.below (drewN_below _ _)⟩, ⟨HG3.out.below (drewN_below _ _)⟩⟩
          case measure => simp [intOf]; omega
        · have HYR := Aside0.mk (HY3.out (by rw [beq_iff_eq] at hk; exact hk))
          have hyy : ((y : Int) != (y : Int)) = false := by simp
          have hbn : (kd != 2) = false := by rw [bne, hk]; rfl
          have HLT := Aside0.mk (Nat.succ_le_of_lt hlt)
          clear HY3 HY4
          obtain ⟨w4, rfl⟩ : ∃ w4 : World, w4 = w3 := ⟨_, rfl⟩
          refine start_ (n := 33) (S := fun w_ => Below w4.heap.size w4 w_) (ds := []) #[false, false, false, false, false, false, false, false, false, false, false, false, false, false, false, false, false, false, false, false, false, false, false, false, false, false, false, false, false, false, false, false, false] (by kernel_rfl) rfl rfl (drew_below w4) (fun hHeld => ?_)
          have HH := Aside0.mk hHeld
          clear hHeld
          generalize w4.drew = wv at HH ⊢
          refine pure_ (i := 0) (N := some 38) (v := ?_) (a' := ?_) #[true, false, false, false, false, false, false, false, false, false, false, false, false, false, false, false, false, false, false, false, false, false, false, false, false, false, false, false, false, false, false, false, false] rfl rfl (by kernel_rfl) (fun _ _ _ h => h) (Or.inl ⟨by rfl, ?_⟩) ?_ ?_
          rotate_left
          · intro w_
            go_simp
            with_reducible rfl
          rotate_left
          · simp only [Act.put, List.setIfInBounds_toArray, List.set_cons_zero, List.set_cons_succ, i64_w, i32_w]
            rfl
          refine take_ (i := 1) (N := some 39) (v := ?_) (a' := ?_) #[true, true, false, false, false, false, false, false, false, false, false, false, false, false, false, false, false, false, false, false, false, false, false, false, false, false, false, false, false, false, false, false, false] rfl rfl (by kernel_rfl) (fun _ _ _ h => h) (Or.inl ⟨by rfl, ?_⟩) HH.out ?_ ?_
          rotate_left
          · rintro w_ s
            have q12 := (s.cell (World.block_lt_of_cell? w4 _ q12)).trans q12; have g1 := (s.cell (World.block_lt_of_cell? w4 _ g1)).trans g1; have g2 := (s.cell (World.block_lt_of_cell? w4 _ g2)).trans g2
            go_simp
            with_reducible rfl
          rotate_left
          · simp only [Act.put, List.setIfInBounds_toArray, List.set_cons_zero, List.set_cons_succ, i64_w, i32_w]
            rfl
          refine pure_ (i := 2) (N := some 40) (v := ?_) (a' := ?_) #[true, true, true, false, false, false, false, false, false, false, false, false, false, false, false, false, false, false, false, false, false, false, false, false, false, false, false, false, false, false, false, false, false] rfl rfl (by kernel_rfl) (fun _ _ _ h => h) (Or.inl ⟨by rfl, ?_⟩) ?_ ?_
          rotate_left
          · intro w_
            go_simp
            with_reducible rfl
          rotate_left
          · simp only [Act.put, List.setIfInBounds_toArray, List.set_cons_zero, List.set_cons_succ, i64_w, i32_w]
            rfl
          refine pure_ (i := 3) (N := some 41) (v := ?_) (a' := ?_) #[true, true, true, true, false, false, false, false, false, false, false, false, false, false, false, false, false, false, false, false, false, false, false, false, false, false, false, false, false, false, false, false, false] rfl rfl (by kernel_rfl) (fun _ _ _ h => h) (Or.inl ⟨by rfl, ?_⟩) ?_ ?_
          rotate_left
          · intro w_
            go_simp
            with_reducible rfl
          rotate_left
          · simp only [Act.put, List.setIfInBounds_toArray, List.set_cons_zero, List.set_cons_succ, i64_w, i32_w]
            rfl
          refine pure_ (i := 4) (N := some 42) (v := ?_) (a' := ?_) #[true, true, true, true, true, false, false, false, false, false, false, false, false, false, false, false, false, false, false, false, false, false, false, false, false, false, false, false, false, false, false, false, false] rfl rfl (by kernel_rfl) (fun _ _ _ h => h) (Or.inl ⟨by rfl, ?_⟩) ?_ ?_
          rotate_left
          · intro w_
            go_simp
            with_reducible rfl
          rotate_left
          · simp only [Act.put, List.setIfInBounds_toArray, List.set_cons_zero, List.set_cons_succ, i64_w, i32_w]
            rfl
          refine take_ (i := 5) (N := some 43) (v := ?_) (a' := ?_) #[true, true, true, true, true, true, false, false, false, false, false, false, false, false, false, false, false, false, false, false, false, false, false, false, false, false, false, false, false, false, false, false, false] rfl rfl (by kernel_rfl) (fun _ _ _ h => h) (Or.inl ⟨by rfl, ?_⟩) HH.out ?_ ?_
          rotate_left
          · rintro w_ s
            have q12 := (s.cell (World.block_lt_of_cell? w4 _ q12)).trans q12; have g1 := (s.cell (World.block_lt_of_cell? w4 _ g1)).trans g1; have g2 := (s.cell (World.block_lt_of_cell? w4 _ g2)).trans g2
            go_simp
            with_reducible rfl
          rotate_left
          · simp only [Act.put, List.setIfInBounds_toArray, List.set_cons_zero, List.set_cons_succ, i64_w, i32_w]
            rfl
          refine pure_ (i := 6) (N := some 44) (v := ?_) (a' := ?_) #[true, true, true, true, true, true, true, false, false, false, false, false, false, false, false, false, false, false, false, false, false, false, false, false, false, false, false, false, false, false, false, false, false] rfl rfl (by kernel_rfl) (fun _ _ _ h => h) (Or.inl ⟨by rfl, ?_⟩) ?_ ?_
          rotate_left
          · intro w_
            go_simp
            with_reducible rfl
          rotate_left
          · simp only [Act.put, List.setIfInBounds_toArray, List.set_cons_zero, List.set_cons_succ, i64_w, i32_w]
            rfl
          refine pure_ (i := 7) (N := some 45) (v := ?_) (a' := ?_) #[true, true, true, true, true, true, true, true, false, false, false, false, false, false, false, false, false, false, false, false, false, false, false, false, false, false, false, false, false, false, false, false, false] rfl rfl (by kernel_rfl) (fun _ _ _ h => h) (Or.inl ⟨by rfl, ?_⟩) ?_ ?_
          rotate_left
          · intro w_
            go_simp
            with_reducible rfl
          rotate_left
          · simp only [Act.put, List.setIfInBounds_toArray, List.set_cons_zero, List.set_cons_succ, i64_w, i32_w]
            rfl
          refine take_ (i := 8) (N := some 46) (v := ?_) (a' := ?_) #[true, true, true, true, true, true, true, true, true, false, false, false, false, false, false, false, false, false, false, false, false, false, false, false, false, false, false, false, false, false, false, false, false] rfl rfl (by kernel_rfl) (fun _ _ _ h => h) (Or.inl ⟨by rfl, ?_⟩) HH.out ?_ ?_
          rotate_left
          · rintro w_ s
            refine run33 (HA3.out.below s) (.tmp 1) ?_ ?_ <;> rfl
          rotate_left
          · simp only [Act.put, List.setIfInBounds_toArray, List.set_cons_zero, List.set_cons_succ, i64_w, i32_w]
            rfl
          refine pure_ (i := 9) (N := some 47) (v := ?_) (a' := ?_) #[true, true, true, true, true, true, true, true, true, true, false, false, false, false, false, false, false, false, false, false, false, false, false, false, false, false, false, false, false, false, false, false, false] rfl rfl (by kernel_rfl) (fun _ _ _ h => h) (Or.inl ⟨by rfl, ?_⟩) ?_ ?_
          rotate_left
          · intro w_
            go_simp
            with_reducible rfl
          rotate_left
          · simp only [Act.put, List.setIfInBounds_toArray, List.set_cons_zero, List.set_cons_succ, i64_w, i32_w]
            rfl
          refine take_ (i := 10) (N := some 48) (v := ?_) (a' := ?_) #[true, true, true, true, true, true, true, true, true, true, true, false, false, false, false, false, false, false, false, false, false, false, false, false, false, false, false, false, false, false, false, false, false] rfl rfl (by kernel_rfl) (fun _ _ _ h => h) (Or.inl ⟨by rfl, ?_⟩) HH.out ?_ ?_
          rotate_left
          · rintro w_ s
            have q12 := (s.cell (World.block_lt_of_cell? w4 _ q12)).trans q12; have g1 := (s.cell (World.block_lt_of_cell? w4 _ g1)).trans g1; have g2 := (s.cell (World.block_lt_of_cell? w4 _ g2)).trans g2
            go_simp
            with_reducible rfl
          rotate_left
          · simp only [Act.put, List.setIfInBounds_toArray, List.set_cons_zero, List.set_cons_succ, i64_w, i32_w]
            rfl
          refine pure_ (i := 11) (N := some 49) (v := ?_) (a' := ?_) #[true, true, true, true, true, true, true, true, true, true, true, true, false, false, false, false, false, false, false, false, false, false, false, false, false, false, false, false, false, false, false, false, false] rfl rfl (by kernel_rfl) (fun _ _ _ h => h) (Or.inl ⟨by rfl, ?_⟩) ?_ ?_
          rotate_left
          · intro w_
            go_simp
            with_reducible rfl
          rotate_left
          · simp only [Act.put, List.setIfInBounds_toArray, List.set_cons_zero, List.set_cons_succ, i64_w, i32_w]
            rfl
          refine pure_ (i := 12) (N := some 50) (v := ?_) (a' := ?_) #[true, true, true, true, true, true, true, true, true, true, true, true, true, false, false, false, false, false, false, false, false, false, false, false, false, false, false, false, false, false, false, false, false] rfl rfl (by kernel_rfl) (fun _ _ _ h => h) (Or.inl ⟨by rfl, ?_⟩) ?_ ?_
          rotate_left
          · intro w_
            go_simp
            with_reducible rfl
          rotate_left
          · simp only [Act.put, List.setIfInBounds_toArray, List.set_cons_zero, List.set_cons_succ, i64_w, i32_w]
            rfl
          refine pure_ (i := 13) (N := some 51) (v := ?_) (a' := ?_) #[true, true, true, true, true, true, true, true, true, true, true, true, true, true, false, false, false, false, false, false, false, false, false, false, false, false, false, false, false, false, false, false, false] rfl rfl (by kernel_rfl) (fun _ _ _ h => h) (Or.inl ⟨by rfl, ?_⟩) ?_ ?_
          rotate_left
          · intro w_
            go_simp
            with_reducible rfl
          rotate_left
          · simp only [Act.put, List.setIfInBounds_toArray, List.set_cons_zero, List.set_cons_succ, i64_w, i32_w]
            rfl
          refine take_ (i := 14) (N := some 52) (v := ?_) (a' := ?_) #[true, true, true, true, true, true, true, true, true, true, true, true, true, true, true, false, false, false, false, false, false, false, false, false, false, false, false, false, false, false, false, false, false] rfl rfl (by kernel_rfl) (fun _ _ _ h => h) (Or.inl ⟨by rfl, ?_⟩) HH.out ?_ ?_
          rotate_left
          · rintro w_ s
            have q12 := (s.cell (World.block_lt_of_cell? w4 _ q12)).trans q12; have g1 := (s.cell (World.block_lt_of_cell? w4 _ g1)).trans g1; have g2 := (s.cell (World.block_lt_of_cell? w4 _ g2)).trans g2
            go_simp
            with_reducible rfl
          rotate_left
          · simp only [Act.put, List.setIfInBounds_toArray, List.set_cons_zero, List.set_cons_succ, i64_w, i32_w]
            rfl
          refine pure_ (i := 16) (N := some 54) (v := ?_) (a' := ?_) #[true, true, true, true, true, true, true, true, true, true, true, true, true, true, true, false, true, false, false, false, false, false, false, false, false, false, false, false, false, false, false, false, false] rfl rfl (by kernel_rfl) (fun _ _ _ h => h) (Or.inl ⟨by rfl, ?_⟩) ?_ ?_
          rotate_left
          · intro w_
            go_simp
            with_reducible rfl
          rotate_left
          · simp only [Act.put, List.setIfInBounds_toArray, List.set_cons_zero, List.set_cons_succ, i64_w, i32_w]
            rfl
          refine one_ (i := 15) (N := some 53) #[true, true, true, true, true, true, true, true, true, true, true, true, true, true, true, true, true, false, false, false, false, false, false, false, false, false, false, false, false, false, false, false, false] rfl rfl (by kernel_rfl) (by decide) (fun K hK => ?_)
          refine goes_ Tryd.func14 (by kernel_rfl) rfl #[.agg #[.string c.f0, .string c.f1.f0, .bool c.f1.f1, .bool c.f1.f2, .bool c.f1.f3, .bool c.f1.f4, .bool c.f1.f5, .bool c.f1.f6, .bool c.f1.f7, .bool c.f1.f8, .slice V.a10 c.f2.length V.k10, .slice V.a11 c.f3.length V.k11, .slice V.a12 c.f4.length V.k12, .slice V.a13 c.f5.length V.k13, .slice V.a14 c.f6.length V.k14, .slice V.a15 c.f7.length V.k15, .slice V.a16 c.f8.length V.k16, .slice V.a17 c.f9.length V.k17], .int .i64 lk] (by rfl) rfl rfl (by first | rfl | (simp only [List.map_toArray, List.map_cons, List.map_nil]; rfl) | simp) ?_
          have hx := root_calls V c lk wv (HA3.out.below HH.out).cf
          unfold arr at hx
          refine hx.mono ?_
          clear hx
          rintro e wb ⟨rfl, B2⟩
          rw [HYR.out]
          refine ⟨_, rfl, ?_⟩
          have HH2 := Aside0.mk (HH.out.trans (B2.mono HH.out.size))
          clear HH B2
          have HH := HH2
          clear HH2
          refine hK.out _ _ HH.out (fun _ => ?_)
          clear hK K
          refine norm_ (a' := ?_) ?_ ?_
          rotate_left
          · show Act.put _ (some 53) _ = _
            simp only [Act.put, List.setIfInBounds_toArray, List.set_cons_zero, List.set_cons_succ, i64_w, i32_w]
            rfl
          refine pure_ (i := 17) (N := some 55) (v := ?_) (a' := ?_) #[true, true, true, true, true, true, true, true, true, true, true, true, true, true, true, true, true, true, false, false, false, false, false, false, false, false, false, false, false, false, false, false, false] rfl rfl (by kernel_rfl) (fun _ _ _ h => h) (Or.inl ⟨by rfl, ?_⟩) ?_ ?_
          rotate_left
          · intro w_
            go_simp
            with_reducible rfl
          rotate_left
          · simp only [Act.put, List.setIfInBounds_toArray, List.set_cons_zero, List.set_cons_succ, i64_w, i32_w]
            rfl
          refine pure_ (i := 18) (N := some 56) (v := ?_) (a' := ?_) #[true, true, true, true, true, true, true, true, true, true, true, true, true, true, true, true, true, true, true, false, false, false, false, false, false, false, false, false, false, false, false, false, false] rfl rfl (by kernel_rfl) (fun _ _ _ h => h) (Or.inl ⟨by rfl, ?_⟩) ?_ ?_
          rotate_left
          · intro w_
            go_simp
            with_reducible rfl
          rotate_left
          · simp only [Act.put, List.setIfInBounds_toArray, List.set_cons_zero, List.set_cons_succ, i64_w, i32_w]
            rfl
          refine pure_ (i := 19) (N := some 57) (v := ?_) (a' := ?_) #[true, true, true, true, true, true, true, true, true, true, true, true, true, true, true, true, true, true, true, true, false, false, false, false, false, false, false, false, false, false, false, false, false] rfl rfl (by kernel_rfl) (fun _ _ _ h => h) (Or.inl ⟨by rfl, ?_⟩) ?_ ?_
          rotate_left
          · intro w_
            go_simp
            with_reducible rfl
          rotate_left
          · simp only [Act.put, List.setIfInBounds_toArray, List.set_cons_zero, List.set_cons_succ, i64_w, i32_w]
            rfl
          refine pure_ (i := 20) (N := some 58) (v := ?_) (a' := ?_) #[true, true, true, true, true, true, true, true, true, true, true, true, true, true, true, true, true, true, true, true, true, false, false, false, false, false, false, false, false, false, false, false, false] rfl rfl (by kernel_rfl) (fun _ _ _ h => h) (Or.inl ⟨by rfl, ?_⟩) ?_ ?_
          rotate_left
          · intro w_
            go_simp
            with_reducible rfl
          rotate_left
          · simp only [Act.put, List.setIfInBounds_toArray, List.set_cons_zero, List.set_cons_succ, i64_w, i32_w]
            rfl
          refine take_ (i := 21) (N := some 59) (v := ?_) (a' := ?_) #[true, true, true, true, true, true, true, true, true, true, true, true, true, true, true, true, true, true, true, true, true, true, false, false, false, false, false, false, false, false, false, false, false] rfl rfl (by kernel_rfl) (fun _ _ _ h => h) (Or.inl ⟨by rfl, ?_⟩) HH.out ?_ ?_
          rotate_left
          · rintro w_ s
            have q12 := (s.cell (World.block_lt_of_cell? w4 _ q12)).trans q12; have g1 := (s.cell (World.block_lt_of_cell? w4 _ g1)).trans g1; have g2 := (s.cell (World.block_lt_of_cell? w4 _ g2)).trans g2
            go_simp
            with_reducible rfl
          rotate_left
          · simp only [Act.put, List.setIfInBounds_toArray, List.set_cons_zero, List.set_cons_succ, i64_w, i32_w]
            rfl
          refine pure_ (i := 22) (N := some 60) (v := ?_) (a' := ?_) #[true, true, true, true, true, true, true, true, true, true, true, true, true, true, true, true, true, true, true, true, true, true, true, false, false, false, false, false, false, false, false, false, false] rfl rfl (by kernel_rfl) (fun _ _ _ h => h) (Or.inl ⟨by rfl, ?_⟩) ?_ ?_
          rotate_left
          · intro w_
            go_simp
            with_reducible rfl
          rotate_left
          · simp only [Act.put, List.setIfInBounds_toArray, List.set_cons_zero, List.set_cons_succ, i64_w, i32_w]
            rfl
          refine pure_ (i := 23) (N := some 61) (v := ?_) (a' := ?_) #[true, true, true, true, true, true, true, true, true, true, true, true, true, true, true, true, true, true, true, true, true, true, true, true, false, false, false, false, false, false, false, false, false] rfl rfl (by kernel_rfl) (fun _ _ _ h => h) (Or.inl ⟨by rfl, ?_⟩) ?_ ?_
          rotate_left
          · intro w_
            go_simp
            with_reducible rfl
          rotate_left
          · simp only [Act.put, List.setIfInBounds_toArray, List.set_cons_zero, List.set_cons_succ, i64_w, i32_w]
            rfl
          refine pure_ (i := 24) (N := some 62) (v := ?_) (a' := ?_) #[true, true, true, true, true, true, true, true, true, true, true, true, true, true, true, true, true, true, true, true, true, true, true, true, true, false, false, false, false, false, false, false, false] rfl rfl (by kernel_rfl) (fun _ _ _ h => h) (Or.inl ⟨by rfl, ?_⟩) ?_ ?_
          rotate_left
          · intro w_
            go_simp
            with_reducible rfl
          rotate_left
          · simp only [Act.put, List.setIfInBounds_toArray, List.set_cons_zero, List.set_cons_succ, i64_w, i32_w]
            rfl
          refine take_ (i := 25) (N := some 63) (v := ?_) (a' := ?_) #[true, true, true, true, true, true, true, true, true, true, true, true, true, true, true, true, true, true, true, true, true, true, true, true, true, true, false, false, false, false, false, false, false] rfl rfl (by kernel_rfl) (fun _ _ _ h => h) (Or.inl ⟨by rfl, ?_⟩) HH.out ?_ ?_
          rotate_left
          · rintro w_ s
            have q12 := (s.cell (World.block_lt_of_cell? w4 _ q12)).trans q12; have g1 := (s.cell (World.block_lt_of_cell? w4 _ g1)).trans g1; have g2 := (s.cell (World.block_lt_of_cell? w4 _ g2)).trans g2
            go_simp
            with_reducible rfl
          rotate_left
          · simp only [Act.put, List.setIfInBounds_toArray, List.set_cons_zero, List.set_cons_succ, i64_w, i32_w]
            rfl
          refine pure_ (i := 26) (N := some 64) (v := ?_) (a' := ?_) #[true, true, true, true, true, true, true, true, true, true, true, true, true, true, true, true, true, true, true, true, true, true, true, true, true, true, true, false, false, false, false, false, false] rfl rfl (by kernel_rfl) (fun _ _ _ h => h) (Or.inl ⟨by rfl, ?_⟩) ?_ ?_
          rotate_left
          · intro w_
            go_simp
            with_reducible rfl
          rotate_left
          · simp only [Act.put, List.setIfInBounds_toArray, List.set_cons_zero, List.set_cons_succ, i64_w, i32_w]
            rfl
          refine pure_ (i := 27) (N := some 65) (v := ?_) (a' := ?_) #[true, true, true, true, true, true, true, true, true, true, true, true, true, true, true, true, true, true, true, true, true, true, true, true, true, true, true, true, false, false, false, false, false] rfl rfl (by kernel_rfl) (fun _ _ _ h => h) (Or.inl ⟨by rfl, ?_⟩) ?_ ?_
          rotate_left
          · intro w_
            go_simp
            with_reducible rfl
          rotate_left
          · simp only [Act.put, List.setIfInBounds_toArray, List.set_cons_zero, List.set_cons_succ, i64_w, i32_w]
            rfl
          refine pure_ (i := 28) (N := some 66) (v := undef) (a' := ?_) #[true, true, true, true, true, true, true, true, true, true, true, true, true, true, true, true, true, true, true, true, true, true, true, true, true, true, true, true, true, false, false, false, false] rfl rfl (by kernel_rfl) (fun _ _ _ h => h) (Or.inr ⟨by rfl, rfl⟩) ?_ ?_
          rotate_left
          · simp only [Act.put, List.setIfInBounds_toArray, List.set_cons_zero, List.set_cons_succ, i64_w, i32_w]
            rfl
          refine pure_ (i := 29) (N := some 67) (v := undef) (a' := ?_) #[true, true, true, true, true, true, true, true, true, true, true, true, true, true, true, true, true, true, true, true, true, true, true, true, true, true, true, true, true, true, false, false, false] rfl rfl (by kernel_rfl) (fun _ _ _ h => h) (Or.inr ⟨by rfl, rfl⟩) ?_ ?_
          rotate_left
          · simp only [Act.put, List.setIfInBounds_toArray, List.set_cons_zero, List.set_cons_succ, i64_w, i32_w]
            rfl
          refine pure_ (i := 30) (N := some 68) (v := undef) (a' := ?_) #[true, true, true, true, true, true, true, true, true, true, true, true, true, true, true, true, true, true, true, true, true, true, true, true, true, true, true, true, true, true, true, false, false] rfl rfl (by kernel_rfl) (fun _ _ _ h => h) (Or.inr ⟨by rfl, rfl⟩) ?_ ?_
          rotate_left
          · simp only [Act.put, List.setIfInBounds_toArray, List.set_cons_zero, List.set_cons_succ, i64_w, i32_w]
            rfl
          refine pure_ (i := 31) (N := some 69) (v := ?_) (a' := ?_) #[true, true, true, true, true, true, true, true, true, true, true, true, true, true, true, true, true, true, true, true, true, true, true, true, true, true, true, true, true, true, true, true, false] rfl rfl (by kernel_rfl) (fun _ _ _ h => h) (Or.inl ⟨by rfl, ?_⟩) ?_ ?_
          rotate_left
          · intro w_
            go_simp
            with_reducible rfl
          rotate_left
          · simp only [Act.put, List.setIfInBounds_toArray, List.set_cons_zero, List.set_cons_succ, i64_w, i32_w]
            rfl
          refine pure_ (i := 32) (N := some 70) (v := ?_) (a' := ?_) #[true, true, true, true, true, true, true, true, true, true, true, true, true, true, true, true, true, true, true, true, true, true, true, true, true, true, true, true, true, true, true, true, true] rfl rfl (by kernel_rfl) (fun _ _ _ h => h) (Or.inl ⟨by rfl, ?_⟩) ?_ ?_
          rotate_left
          · intro w_
            go_simp
            with_reducible rfl
          rotate_left
          · simp only [Act.put, List.setIfInBounds_toArray, List.set_cons_zero, List.set_cons_succ, i64_w, i32_w]
            rfl
          refine done_ (by kernel_rfl) ?_
          trace_state
          go_wp2_with fail
          go_roundw
          case rel => exact ⟨i + 1, HLT.out, by go_num, ⟨HB3.out.trans (HH.out.mono HB3.out.size)⟩, ⟨HA3.out.below HH.out⟩, ⟨HG3.out.below HH.out⟩⟩
          case measure => have := HLT.out; simp [intOf]; omega
      · have hd : decide ((i : Int) < (c.f4.length : Int)) = false := decide_eq_false (by omega)
        go_wp2_with (first | ((with_reducible refine gate_dst (N := 71) rfl ?_); refine load33 HA.out rfl (.tmp 1) rfl rfl ?_))
        have hx := root_calls V c (c.f4.length : Int) wr HA.out.cf
        unfold arr at hx
        refine hx.mono ?_
        clear hx q12
        rintro e w3 ⟨rfl, B3⟩
        rw [rootV_len]
        have HB3 := Aside0.mk (HB.out.trans (B3.mono HB.out.size))
        have HA3 := Aside0.mk (HA.out.below B3)
        have HG3 := Aside0.mk (HG.out.below B3)
        clear B3 HB HA HG
        go_wp2_with (first | ((with_reducible refine gate_dst (N := 78) rfl ?_); (refine gate_guard (by rfl) ?_; dsimp only); refine load33 HA3.out rfl (.tmp 1) rfl rfl ?_))
        have hx := root_calls V c (-1) w3 HA3.out.cf
        unfold arr at hx
        refine hx.mono ?_
        clear hx
        rintro e w4 ⟨rfl, B4⟩
        rw [rootV_neg]
        have HB4 := Aside0.mk (HB3.out.trans (B4.mono HB3.out.size))
        have HG4 := Aside0.mk (HG3.out.below B4)
        clear B4 HB3 HA3 HG3
        go_wp2_with fail
        refine (heads_calls w4 HG4.out).mono ?_
        rintro e w5 ⟨rfl, B5⟩
        go_wp2_with fail
        go_ret
        exact ⟨rfl, HB4.out.trans (B5.mono HB4.out.size)⟩
end Go.Proofs.YthckjbmgeidkgaaDoor.XA
