/- tasks: the references, the rules: checks of package class. -/
import Derived.Test.YthckjbmgeidkgaaDoorHRes
namespace Go.Proofs.YthckjbmgeidkgaaDoor.XA
set_option linter.unusedVariables false
set_option linter.unusedSimpArgs false
open Go.RowKit Go.WideMaps Go.Maps Go.Proofs.YthckjbmgeidkgaaDoorW.PrintWords Go.Proofs.YthckjbmgeidkgaaDoorW.PrintLast Go.Proofs.YthckjbmgeidkgaaDoorW.PrintMore
def taskRefs (c : S33) (t : S49) : Bool := riseB c.f2.length t.f4 && riseB c.f4.length t.f5 && riseB c.f5.length t.f6 && riseB c.f9.length t.f7
def eTaskRefs (c : S33) (i : Nat) : Int := if taskRefs c (c.f3.getD i z49) then 0 else 73
set_option maxRecDepth 1000000 in
set_option maxHeartbeats 4000000 in
theorem taskRefs_chk : Chk 42 (fun c => c.f3.length) (fun _ _ => True) eTaskRefs := by
  intro w B V c i h hi _
  obtain ⟨t, ad, A4, c4, A5, c5, A6, c6, A7, c7, ht, e, HA, l4, g4, l5, g5, l6, g6, l7, g7⟩ := task_at h.cf.t i hi
  have q11 := h.cell11
  rw [e] at q11
  have HAX := Aside0.mk HA
  have HE := Aside0.mk (show eTaskRefs c i = if taskRefs c t then 0 else 73 from by unfold eTaskRefs; rw [ht])
  have HX := Aside0.mk h
  clear h e ht HA
  go_enter Tryd.func42, Tryd.ntmps42
  go_wp2_with (first | ((with_reducible refine gate_dst (N := 12) rfl ?_); refine load49 HAX.out rfl (.tmp 11) rfl rfl ?_))
  have HB := Aside0.mk (below_a w (.cells #[.string t.f0, .int .i64 t.f1, .bool t.f2, .int .i64 t.f3, .slice A4 t.f4.length c4, .slice A5 t.f5.length c5, .slice A6 t.f6.length c6, .slice A7 t.f7.length c7] 49))
  have y4 : (w.alloc (.cells #[.string t.f0, .int .i64 t.f1, .bool t.f2, .int .i64 t.f3, .slice A4 t.f4.length c4, .slice A5 t.f5.length c5, .slice A6 t.f6.length c6, .slice A7 t.f7.length c7] 49)).cell? ⟨w.heap.size, 4, none⟩ = some (.slice A4 t.f4.length c4) := by simp
  have y5 : (w.alloc (.cells #[.string t.f0, .int .i64 t.f1, .bool t.f2, .int .i64 t.f3, .slice A4 t.f4.length c4, .slice A5 t.f5.length c5, .slice A6 t.f6.length c6, .slice A7 t.f7.length c7] 49)).cell? ⟨w.heap.size, 5, none⟩ = some (.slice A5 t.f5.length c5) := by simp
  have y6 : (w.alloc (.cells #[.string t.f0, .int .i64 t.f1, .bool t.f2, .int .i64 t.f3, .slice A4 t.f4.length c4, .slice A5 t.f5.length c5, .slice A6 t.f6.length c6, .slice A7 t.f7.length c7] 49)).cell? ⟨w.heap.size, 6, none⟩ = some (.slice A6 t.f6.length c6) := by simp
  have y7 : (w.alloc (.cells #[.string t.f0, .int .i64 t.f1, .bool t.f2, .int .i64 t.f3, .slice A4 t.f4.length c4, .slice A5 t.f5.length c5, .slice A6 t.f6.length c6, .slice A7 t.f7.length c7] 49)).cell? ⟨w.heap.size, 7, none⟩ = some (.slice A7 t.f7.length c7) := by simp
  generalize w.alloc (.cells #[.string t.f0, .int .i64 t.f1, .bool t.f2, .int .i64 t.f3, .slice A4 t.f4.length c4, .slice A5 t.f5.length c5, .slice A6 t.f6.length c6, .slice A7 t.f7.length c7] 49) = w1 at *
  have H1 := Aside0.mk (HX.out.below HB.out)
  have q10 := H1.out.cell10
  have q12 := H1.out.cell12
  have q13 := H1.out.cell13
  have q17 := H1.out.cell17
  have R4 := Aside0.mk (fun n => rise_calls A4 c4 t.f4 c.f2.length (w1.drewN n) (Kd.C_below (Kd.C_below g4 HB.out) (drewN_below w1 n)) l4)
  have R5 := Aside0.mk (fun n => rise_calls A5 c5 t.f5 c.f4.length (w1.drewN n) (Kd.C_below (Kd.C_below g5 HB.out) (drewN_below w1 n)) l5)
  have R6 := Aside0.mk (fun n => rise_calls A6 c6 t.f6 c.f5.length (w1.drewN n) (Kd.C_below (Kd.C_below g6 HB.out) (drewN_below w1 n)) l6)
  have R7 := Aside0.mk (fun n => rise_calls A7 c7 t.f7 c.f9.length (w1.drewN n) (Kd.C_below (Kd.C_below g7 HB.out) (drewN_below w1 n)) l7)
  unfold taskRefs at HE
  generalize riseB c.f2.length t.f4 = k4 at *
  generalize riseB c.f4.length t.f5 = k5 at *
  generalize riseB c.f5.length t.f6 = k6 at *
  generalize riseB c.f9.length t.f7 = k7 at *
  clear g4 g5 g6 g7 l4 l5 l6 l7 H1 HX HAX q11
  cases k4
  · go_quiet (first | (go_at_call 77; with_reducible refine Calls.quiet_of_same (R4.out _)) | (go_at_call 38; refine Calls.quiet_of_same (unless_calls _ _ _)))
    go_wp2_with fail
    go_ret
    refine ⟨?_, HB.out.trans ((drewN_below _ _).mono HB.out.size)⟩
    rw [HE.out]
    refine congrArg (fun z => Ending.returned (Value.int .i64 z)) ?_
    simp [*]
    try omega
  · cases k5
    · go_quiet (first | (go_at_call 77; first | with_reducible refine Calls.quiet_of_same (R4.out _) | with_reducible refine Calls.quiet_of_same (R5.out _)) | (go_at_call 38; refine Calls.quiet_of_same (unless_calls _ _ _)))
      go_wp2_with fail
      go_ret
      refine ⟨?_, HB.out.trans ((drewN_below _ _).mono HB.out.size)⟩
      rw [HE.out]
      refine congrArg (fun z => Ending.returned (Value.int .i64 z)) ?_
      simp [*]
      try omega
    · cases k6
      · go_quiet (first | (go_at_call 77; first | with_reducible refine Calls.quiet_of_same (R4.out _) | with_reducible refine Calls.quiet_of_same (R5.out _) | with_reducible refine Calls.quiet_of_same (R6.out _)) | (go_at_call 38; refine Calls.quiet_of_same (unless_calls _ _ _)))
        go_wp2_with fail
        go_ret
        refine ⟨?_, HB.out.trans ((drewN_below _ _).mono HB.out.size)⟩
        rw [HE.out]
        refine congrArg (fun z => Ending.returned (Value.int .i64 z)) ?_
        simp [*]
        try omega
      · go_quiet (first | (go_at_call 77; first | with_reducible refine Calls.quiet_of_same (R4.out _) | with_reducible refine Calls.quiet_of_same (R5.out _) | with_reducible refine Calls.quiet_of_same (R6.out _) | with_reducible refine Calls.quiet_of_same (R7.out _)) | (go_at_call 38; refine Calls.quiet_of_same (unless_calls _ _ _)))
        go_wp2_with fail
        all_goals
          go_ret
          refine ⟨?_, HB.out.trans ((drewN_below _ _).mono HB.out.size)⟩
          rw [HE.out]
          refine congrArg (fun z => Ending.returned (Value.int .i64 z)) ?_
          simp [*]
          try omega
def maskOf (evs : List S53) (e : Nat) : Int := (evs.getD e z53).f1
/-- the masks of a list, joined; none: two have something in common -/
def maskF (evs : List S53) : Int → List Int → Option Int
  | b, [] => some b
  | b, e :: l => if bits .and .u32 b (maskOf evs e.toNat) ≠ 0 then none else maskF evs (bits .or .u32 b (maskOf evs e.toNat)) l
theorem maskF_drop (evs : List S53) (b : Int) (l : List Int) (j : Nat) (h : j < l.length) : maskF evs b (l.drop j) = if bits .and .u32 b (maskOf evs (l.getD j 0).toNat) ≠ 0 then none else maskF evs (bits .or .u32 b (maskOf evs (l.getD j 0).toNat)) (l.drop (j + 1)) := by
  rw [List.drop_eq_getElem_cons h, List.getD_eq_getElem?_getD, List.getElem?_eq_getElem h]
  rfl
def taskRules (c : S33) (t : S49) : Bool := (maskF c.f5 0 t.f6).isSome && (t.f6.length == 0 || t.f3 == 1) && decide (cntI c.f4 t.f5 ≤ 1)
def eTaskRules (c : S33) (i : Nat) : Int := if taskRules c (c.f3.getD i z49) then 0 else 70
theorem taskRefs_of {c : S33} {i : Nat} (h : eTaskRefs c i = 0) : taskRefs c (c.f3.getD i z49) = true := by
  unfold eTaskRefs at h
  split at h
  · assumption
  · omega
set_option maxRecDepth 1000000 in
set_option maxHeartbeats 4000000 in
theorem taskRules_chk : Chk 44 (fun c => c.f3.length) (fun c i => eTaskRefs c i = 0) eTaskRules := by
  intro w B V c i h hi hpre
  obtain ⟨t, ad, A4, c4, A5, c5, A6, c6, A7, c7, ht, e, HA, _, _, l5, g5, l6, g6, _⟩ := task_at h.cf.t i hi
  have hrf := taskRefs_of hpre
  have HE := Aside0.mk (show eTaskRules c i = if taskRules c t then 0 else 70 from by unfold eTaskRules; rw [ht])
  rw [ht] at hrf
  unfold taskRefs at hrf
  simp only [Bool.and_eq_true] at hrf
  have HM5 := Aside0.mk (rise_mem hrf.1.1.2)
  have HM6 := Aside0.mk (rise_mem hrf.1.2)
  have q11 := h.cell11
  rw [e] at q11
  have HAX := Aside0.mk HA
  have HX := Aside0.mk h
  have hlen := g6.2.1
  have HG6 := Aside0.mk g6
  have HG5 := Aside0.mk g5
  clear h e ht HA g5 g6 hrf hpre
  go_enter Tryd.func44, Tryd.ntmps44
  go_wp2_with (first | ((with_reducible refine gate_dst (N := 15) rfl ?_); refine load49 HAX.out rfl (.tmp 14) rfl rfl ?_))
  have HB := Aside0.mk (below_a w (.cells #[.string t.f0, .int .i64 t.f1, .bool t.f2, .int .i64 t.f3, .slice A4 t.f4.length c4, .slice A5 t.f5.length c5, .slice A6 t.f6.length c6, .slice A7 t.f7.length c7] 49))
  have y3 : (w.alloc (.cells #[.string t.f0, .int .i64 t.f1, .bool t.f2, .int .i64 t.f3, .slice A4 t.f4.length c4, .slice A5 t.f5.length c5, .slice A6 t.f6.length c6, .slice A7 t.f7.length c7] 49)).cell? ⟨w.heap.size, 3, none⟩ = some (.int .i64 t.f3) := by simp
  have y5 : (w.alloc (.cells #[.string t.f0, .int .i64 t.f1, .bool t.f2, .int .i64 t.f3, .slice A4 t.f4.length c4, .slice A5 t.f5.length c5, .slice A6 t.f6.length c6, .slice A7 t.f7.length c7] 49)).cell? ⟨w.heap.size, 5, none⟩ = some (.slice A5 t.f5.length c5) := by simp
  have y6 : (w.alloc (.cells #[.string t.f0, .int .i64 t.f1, .bool t.f2, .int .i64 t.f3, .slice A4 t.f4.length c4, .slice A5 t.f5.length c5, .slice A6 t.f6.length c6, .slice A7 t.f7.length c7] 49)).cell? ⟨w.heap.size, 6, none⟩ = some (.slice A6 t.f6.length c6) := by simp
  generalize w.alloc (.cells #[.string t.f0, .int .i64 t.f1, .bool t.f2, .int .i64 t.f3, .slice A4 t.f4.length c4, .slice A5 t.f5.length c5, .slice A6 t.f6.length c6, .slice A7 t.f7.length c7] 49) = w1 at *
  have H1 := Aside0.mk (HX.out.below HB.out)
  obtain ⟨mf, hmf⟩ : ∃ mf, maskF c.f5 0 t.f6 = mf := ⟨_, rfl⟩
  have HE := Aside0.mk (show eTaskRules c i = if (mf.isSome && (t.f6.length == 0 || t.f3 == 1) && decide (cntI c.f4 t.f5 ≤ 1)) then 0 else 70 from by rw [HE.out, ← hmf]; rfl)
  have HM0 := Aside0.mk (show maskF c.f5 0 (t.f6.drop 0) = mf from hmf)
  clear hmf
  go_loopw [6, 19] (fun b k wr => ∃ (j : Nat) (bt : Int), j ≤ t.f6.length ∧ k = .int .i64 j ∧ b = .int .u32 bt ∧ wr = w1 ∧ Aside0 (maskF c.f5 bt (t.f6.drop j) = mf)) (fun _ k _ => t.f6.length - (intOf k).toNat)
  case atStart => exact ⟨0, 0, by omega, rfl, rfl, rfl, HM0⟩
  case round =>
    clear HM0
    obtain ⟨j, bt, hj, rfl, rfl, rfl, HMF⟩ := hrel
    by_cases hlt : j < t.f6.length
    · have hd : decide ((j : Int) < (t.f6.length : Int)) = true := decide_eq_true (by omega)
      obtain ⟨a6, rfl, hc0⟩ := (Kd.reads_of_C (d := (0 : Int)) (Kd.C_below HG6.out HB.out)).2.2 (by omega)
      have hx := hc0 j hlt
      have hmem : t.f6.getD j 0 ∈ t.f6 := by rw [List.getD_eq_getElem?_getD, List.getElem?_eq_getElem hlt]; exact List.getElem_mem hlt
      obtain ⟨h0, h1⟩ := HM6.out _ hmem
      obtain ⟨p, hp⟩ := Int.eq_ofNat_of_zero_le h0
      have HMF := Aside0.mk ((maskF_drop c.f5 bt t.f6 j hlt).symm.trans HMF.out)
      rw [hp] at hx HMF h1
      rw [show ((p : Int)).toNat = p from Int.toNat_natCast p] at HMF
      have hpl : p < c.f5.length := by omega
      obtain ⟨u, ad2, hu, e2, HA2⟩ := evt_at H1.out.cf.e p hpl
      have q13 := H1.out.cell13
      rw [e2] at q13
      have g1 := HA2.g1
      unfold maskOf at HMF
      rw [hu] at HMF
      clear hp e2 hu HA2 hc0 hmem h0 h1
      obtain ⟨mk, hmk⟩ : ∃ mk, u.f1 = mk := ⟨_, rfl⟩
      rw [hmk] at g1 HMF
      clear hmk
      by_cases hz : bits .and .u32 bt mk = 0
      · have hb : (bits .and .u32 bt mk != 0) = false := by simp [hz]
        have HMN := Aside0.mk (show maskF c.f5 (bits .or .u32 bt mk) (t.f6.drop (j + 1)) = mf from by have := HMF.out; rw [if_neg (fun e => e hz)] at this; exact this)
        clear hz HMF
        go_wp2_with fail
        go_roundw
        case rel => exact ⟨j + 1, _, by omega, by go_num, rfl, trivial, HMN⟩
        case measure => simp [intOf]; omega
      · have hb : (bits .and .u32 bt mk != 0) = true := by simp [hz]
        have HMN := Aside0.mk (show mf = none from by have := HMF.out; rw [if_pos hz] at this; exact this.symm)
        clear hz HMF
        go_wp2_with fail
        go_ret
        exact ⟨by rw [HE.out, HMN.out] <;> rfl, HB.out⟩
    · have hd : decide ((j : Int) < (t.f6.length : Int)) = false := decide_eq_false (by omega)
      have HS := Aside0.mk (show mf = some bt from by have := HMF.out; rw [List.drop_of_length_le (by omega)] at this; exact this.symm)
      have HE := Aside0.mk (show eTaskRules c i = if ((t.f6.length == 0 || t.f3 == 1) && decide (cntI c.f4 t.f5 ≤ 1)) then 0 else 70 from by rw [HE.out, HS.out]; rfl)
      have HI := Aside0.mk (internals_calls B V c A5 c5 t.f5 wr H1.out (Kd.C_below HG5.out HB.out) l5 HM5.out)
      clear HS HMF HM5 HM6 HG5 HG6
      generalize t.f6.length = n at *
      by_cases e0 : n = 0 ∨ t.f3 = 1
      · have HE := Aside0.mk (show eTaskRules c i = if decide (cntI c.f4 t.f5 ≤ 1) then 0 else 70 from by
          rw [HE.out]
          rcases e0 with e0 | e0
          · rw [show (n == 0) = true by simp [e0]]; rfl
          · rw [show (t.f3 == 1) = true by simp [e0]]; simp)
        generalize cntI c.f4 t.f5 = q at *
        rcases e0 with e0 | e0
        · have z0 : ((n : Int) == 0) = true := by rw [beq_iff_eq]; omega
          have z1 : (n == 0) = true := by rw [beq_iff_eq]; exact e0
          clear e0
          go_wp2_with fail
          refine HI.out.mono ?_
          rintro e w' ⟨rfl, rfl⟩
          go_wp2_with fail
          all_goals
            refine (unless_calls _ _ _).mono ?_
            rintro e w' ⟨rfl, rfl⟩
            go_wp2_with fail
            all_goals
              go_ret
              refine ⟨?_, HB.out⟩
              rw [HE.out]
              refine congrArg (fun z => Ending.returned (Value.int .i64 z)) ?_
              simp [*]
              try omega
        · have z2 : (t.f3 == 1) = true := by rw [beq_iff_eq]; exact e0
          rcases z0 : ((n : Int) == 0) with _ | _
          · have z1 : (n == 0) = false := by rw [beq_eq_false_iff_ne]; intro h; rw [h] at z0; cases z0
            clear e0
            go_wp2_with fail
            refine HI.out.mono ?_
            rintro e w' ⟨rfl, rfl⟩
            go_wp2_with fail
            all_goals
              refine (unless_calls _ _ _).mono ?_
              rintro e w' ⟨rfl, rfl⟩
              go_wp2_with fail
              all_goals
                go_ret
                refine ⟨?_, HB.out⟩
                rw [HE.out]
                refine congrArg (fun z => Ending.returned (Value.int .i64 z)) ?_
                simp [*]
                try omega
          · have z1 : (n == 0) = true := by rw [beq_iff_eq] at z0 ⊢; omega
            clear e0
            go_wp2_with fail
            refine HI.out.mono ?_
            rintro e w' ⟨rfl, rfl⟩
            go_wp2_with fail
            all_goals
              refine (unless_calls _ _ _).mono ?_
              rintro e w' ⟨rfl, rfl⟩
              go_wp2_with fail
              all_goals
                go_ret
                refine ⟨?_, HB.out⟩
                rw [HE.out]
                refine congrArg (fun z => Ending.returned (Value.int .i64 z)) ?_
                simp [*]
                try omega
      · have z0 : ((n : Int) == 0) = false := by rw [beq_eq_false_iff_ne]; omega
        have z1 : (n == 0) = false := by rw [beq_eq_false_iff_ne]; omega
        have z2 : (t.f3 == 1) = false := by rw [beq_eq_false_iff_ne]; omega
        have HE := Aside0.mk (show eTaskRules c i = 70 from by rw [HE.out, z1, z2]; rfl)
        clear e0
        go_wp2_with fail
        all_goals
          refine (unless_calls _ _ _).mono ?_
          rintro e w' ⟨rfl, rfl⟩
          go_wp2_with fail
          all_goals
            go_ret
            refine ⟨?_, HB.out⟩
            rw [HE.out]
            refine congrArg (fun z => Ending.returned (Value.int .i64 z)) ?_
            simp [*]
            try omega
end Go.Proofs.YthckjbmgeidkgaaDoor.XA
