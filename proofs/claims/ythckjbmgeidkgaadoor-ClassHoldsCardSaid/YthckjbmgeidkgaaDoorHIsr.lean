/- interrupts: checks of package class. -/
import Derived.Test.YthckjbmgeidkgaaDoorHTask
namespace Go.Proofs.YthckjbmgeidkgaaDoor.XA
set_option linter.unusedVariables false
set_option linter.unusedSimpArgs false
open Go.RowKit Go.WideMaps Go.Maps Go.Proofs.YthckjbmgeidkgaaDoorW.PrintWords Go.Proofs.YthckjbmgeidkgaaDoorW.PrintLast Go.Proofs.YthckjbmgeidkgaaDoorW.PrintMore
def isrVal (t : S55) : Bool := (t.f1 == 1 || t.f1 == 2) && decide (64 ≤ t.f2) && decide (t.f2 ≤ 127)
def eIsrVal (c : S33) (i : Nat) : Int := if isrVal (c.f8.getD i z55) then 0 else 74
set_option maxRecDepth 1000000 in
set_option maxHeartbeats 4000000 in
theorem isrVal_chk : Chk 56 (fun c => c.f8.length) (fun _ _ => True) eIsrVal := by
  intro w B V c i h hi _
  obtain ⟨t, ad, A3, c3, A4, c4, ht, e, HA, _⟩ := isr_at h.cf.i i hi
  have q16 := h.cell16
  rw [e] at q16
  have HAX := Aside0.mk HA
  have HE := Aside0.mk (show eIsrVal c i = if isrVal t then 0 else 74 from by unfold eIsrVal; rw [ht])
  clear h e ht HA
  go_enter Tryd.func56, Tryd.ntmps56
  go_wp2_with (first | ((with_reducible refine gate_dst (N := 12) rfl ?_); refine load55 HAX.out rfl (.tmp 11) rfl rfl ?_))
  all_goals
    refine (unless_calls _ _ _).mono ?_
    rintro e w' ⟨rfl, rfl⟩
    go_wp2_with fail
    all_goals
      go_ret
      refine ⟨?_, below_a _ _⟩
      rw [HE.out]
      clear HE HAX
      refine congrArg (fun z => Ending.returned (Value.int .i64 z)) ?_
      unfold isrVal
      simp [*]
      try omega
def isrRefs (c : S33) (t : S55) : Bool := riseB c.f4.length t.f3 && riseB c.f9.length t.f4
def eIsrRefs (c : S33) (i : Nat) : Int := if isrRefs c (c.f8.getD i z55) then 0 else 73
set_option maxRecDepth 1000000 in
set_option maxHeartbeats 4000000 in
theorem isrRefs_chk : Chk 57 (fun c => c.f8.length) (fun _ _ => True) eIsrRefs := by
  intro w B V c i h hi _
  obtain ⟨t, ad, A3, c3, A4, c4, ht, e, HA, l3, g3, l4, g4⟩ := isr_at h.cf.i i hi
  have q16 := h.cell16
  rw [e] at q16
  have HAX := Aside0.mk HA
  have HE := Aside0.mk (show eIsrRefs c i = if isrRefs c t then 0 else 73 from by unfold eIsrRefs; rw [ht])
  have HX := Aside0.mk h
  clear h e ht HA
  go_enter Tryd.func57, Tryd.ntmps57
  go_wp2_with (first | ((with_reducible refine gate_dst (N := 12) rfl ?_); refine load55 HAX.out rfl (.tmp 11) rfl rfl ?_))
  have HB := Aside0.mk (below_a w (.cells #[.string t.f0, .int .i64 t.f1, .int .i64 t.f2, .slice A3 t.f3.length c3, .slice A4 t.f4.length c4] 55))
  have y3 : (w.alloc (.cells #[.string t.f0, .int .i64 t.f1, .int .i64 t.f2, .slice A3 t.f3.length c3, .slice A4 t.f4.length c4] 55)).cell? ⟨w.heap.size, 3, none⟩ = some (.slice A3 t.f3.length c3) := by simp
  have y4 : (w.alloc (.cells #[.string t.f0, .int .i64 t.f1, .int .i64 t.f2, .slice A3 t.f3.length c3, .slice A4 t.f4.length c4] 55)).cell? ⟨w.heap.size, 4, none⟩ = some (.slice A4 t.f4.length c4) := by simp
  generalize w.alloc (.cells #[.string t.f0, .int .i64 t.f1, .int .i64 t.f2, .slice A3 t.f3.length c3, .slice A4 t.f4.length c4] 55) = w1 at *
  have H1 := Aside0.mk (HX.out.below HB.out)
  have q12 := H1.out.cell12
  have q17 := H1.out.cell17
  have R3 := Aside0.mk (fun n => rise_calls A3 c3 t.f3 c.f4.length (w1.drewN n) (Kd.C_below (Kd.C_below g3 HB.out) (drewN_below w1 n)) l3)
  have R4 := Aside0.mk (fun n => rise_calls A4 c4 t.f4 c.f9.length (w1.drewN n) (Kd.C_below (Kd.C_below g4 HB.out) (drewN_below w1 n)) l4)
  unfold isrRefs at HE
  generalize riseB c.f4.length t.f3 = k3 at *
  generalize riseB c.f9.length t.f4 = k4 at *
  clear g3 g4 l3 l4 H1 HX HAX q16
  cases k3
  · go_quiet (first | (go_at_call 77; with_reducible refine Calls.quiet_of_same (R3.out _)) | (go_at_call 38; refine Calls.quiet_of_same (unless_calls _ _ _)))
    go_wp2_with fail
    go_ret
    refine ⟨?_, HB.out.trans ((drewN_below _ _).mono HB.out.size)⟩
    rw [HE.out]
    refine congrArg (fun z => Ending.returned (Value.int .i64 z)) ?_
    simp [*]
    try omega
  · cases k4
    all_goals
      go_quiet (first | (go_at_call 77; first | with_reducible refine Calls.quiet_of_same (R3.out _) | with_reducible refine Calls.quiet_of_same (R4.out _)) | (go_at_call 38; refine Calls.quiet_of_same (unless_calls _ _ _)))
      go_wp2_with fail
      go_ret
      refine ⟨?_, HB.out.trans ((drewN_below _ _).mono HB.out.size)⟩
      rw [HE.out]
      refine congrArg (fun z => Ending.returned (Value.int .i64 z)) ?_
      simp [*]
      try omega
/-- two interrupts that may not stand side by side: u ahead of t -/
def clash (u t : S55) : Bool := u.f2 == t.f2 || decide (t.f1 < u.f1) && decide (t.f2 < u.f2) || decide (u.f1 < t.f1) && decide (u.f2 < t.f2)
def isrOwn (c : S33) (t : S55) : Bool := decide (0 < cntI c.f4 t.f3) || (t.f1 == 1 && decide (0 < t.f3.length + t.f4.length))
def isrClash (is : List S55) (i : Nat) (t : S55) : Bool := (List.range i).any fun k => clash (is.getD k z55) t
def eIsrRules (c : S33) (i : Nat) : Int := if isrOwn c (c.f8.getD i z55) || isrClash c.f8 i (c.f8.getD i z55) then 70 else 0
theorem clash_yes {is : List S55} {i k : Nat} {t : S55} (hk : k < i) (h : clash (is.getD k z55) t = true) : isrClash is i t = true := by
  unfold isrClash
  rw [List.any_eq_true]
  exact ⟨k, List.mem_range.mpr hk, h⟩
theorem clash_no {is : List S55} {i : Nat} {t : S55} (h : ∀ k, k < i → clash (is.getD k z55) t = false) : isrClash is i t = false := by
  unfold isrClash
  rw [List.any_eq_false]
  intro k hk
  rw [h k (List.mem_range.mp hk)]
  simp
theorem isrRefs_of {c : S33} {i : Nat} (h : eIsrRefs c i = 0) : isrRefs c (c.f8.getD i z55) = true := by
  unfold eIsrRefs at h
  split at h
  · assumption
  · omega
theorem mem_at {is : List S55} {i : Nat} (h : i < is.length) : is.getD i z55 ∈ is := by
  rw [List.getD_eq_getElem?_getD, List.getElem?_eq_getElem h]
  exact List.getElem_mem h
set_option maxRecDepth 1000000 in
set_option maxHeartbeats 4000000 in
theorem isrRules_chk : Chk 58 (fun c => c.f8.length) (fun c i => eIsrRefs c i = 0) eIsrRules := by
  intro w B V c i h hi hpre
  obtain ⟨t, ad, A3, c3, A4, c4, ht, e, HA, l3, g3, l4, g4⟩ := isr_at h.cf.i i hi
  have hrf := isrRefs_of hpre
  have hbd := h.cf.bd.ii _ (mem_at hi)
  rw [ht] at hrf hbd
  unfold isrRefs at hrf
  simp only [Bool.and_eq_true] at hrf
  have HM3 := Aside0.mk (rise_mem hrf.1)
  have HE := Aside0.mk (show eIsrRules c i = if isrOwn c t || isrClash c.f8 i t then 70 else 0 from by unfold eIsrRules; rw [ht])
  have q16 := h.cell16
  rw [e] at q16
  have HAX := Aside0.mk HA
  have HX := Aside0.mk h
  have HG3 := Aside0.mk g3
  have HE16 := Aside0.mk e
  clear h e ht HA g3 g4 hrf hpre
  go_enter Tryd.func58, Tryd.ntmps58
  go_wp2_with (first | ((with_reducible refine gate_dst (N := 14) rfl ?_); refine load55 HAX.out rfl (.tmp 13) rfl rfl ?_))
  have HB := Aside0.mk (below_a w (.cells #[.string t.f0, .int .i64 t.f1, .int .i64 t.f2, .slice A3 t.f3.length c3, .slice A4 t.f4.length c4] 55))
  have y1 : (w.alloc (.cells #[.string t.f0, .int .i64 t.f1, .int .i64 t.f2, .slice A3 t.f3.length c3, .slice A4 t.f4.length c4] 55)).cell? ⟨w.heap.size, 1, none⟩ = some (.int .i64 t.f1) := by simp
  have y2 : (w.alloc (.cells #[.string t.f0, .int .i64 t.f1, .int .i64 t.f2, .slice A3 t.f3.length c3, .slice A4 t.f4.length c4] 55)).cell? ⟨w.heap.size, 2, none⟩ = some (.int .i64 t.f2) := by simp
  have y3 : (w.alloc (.cells #[.string t.f0, .int .i64 t.f1, .int .i64 t.f2, .slice A3 t.f3.length c3, .slice A4 t.f4.length c4] 55)).cell? ⟨w.heap.size, 3, none⟩ = some (.slice A3 t.f3.length c3) := by simp
  have y4 : (w.alloc (.cells #[.string t.f0, .int .i64 t.f1, .int .i64 t.f2, .slice A3 t.f3.length c3, .slice A4 t.f4.length c4] 55)).cell? ⟨w.heap.size, 4, none⟩ = some (.slice A4 t.f4.length c4) := by simp
  generalize w.alloc (.cells #[.string t.f0, .int .i64 t.f1, .int .i64 t.f2, .slice A3 t.f3.length c3, .slice A4 t.f4.length c4] 55) = w1 at *
  have H1 := Aside0.mk (HX.out.below HB.out)
  have q16 := H1.out.cell16
  rw [HE16.out] at q16
  have hib : i ≤ 8796093022208 := by have := HX.out.cf.bd.i; omega
  have hcap : i ≤ V.k16 := Nat.le_trans (Nat.le_of_lt hi) HX.out.cf.il
  have HI := Aside0.mk (internals_calls B V c A3 c3 t.f3 w1 H1.out (Kd.C_below HG3.out HB.out) l3 HM3.out)
  unfold isrOwn at HE
  clear HG3 HM3 HX HAX
  refine HI.out.mono ?_
  clear HI
  rintro e w' ⟨rfl, rfl⟩
  generalize cntI c.f4 t.f3 = q at *
  generalize t.f3.length = n3 at *
  generalize t.f4.length = n4 at *
  have hw : IntKind.i64.wrap ((n3 : Int) + (n4 : Int)) = (n3 : Int) + (n4 : Int) := IntWalk.i64_in _ (by omega)
  by_cases c1 : 0 < q
  · have b1 : decide ((0 : Int) < (q : Int)) = true := decide_eq_true (by omega)
    have b1' : decide (0 < q) = true := decide_eq_true c1
    have HK := Aside0.mk (show eIsrRules c i = 70 from by rw [HE.out, b1']; rfl)
    clear HE
    go_wp2_with fail
    go_ret
    exact ⟨by rw [HK.out] <;> rfl, HB.out⟩
  · have b1 : decide ((0 : Int) < (q : Int)) = false := decide_eq_false (by omega)
    have b1' : decide (0 < q) = false := decide_eq_false c1
    by_cases c2 : t.f1 = 1
    · have b2 : (t.f1 == 1) = true := by simp [c2]
      by_cases c3 : 0 < n3 + n4
      · have b3 : decide ((0 : Int) < (n3 : Int) + (n4 : Int)) = true := decide_eq_true (by omega)
        have b3' : decide (0 < n3 + n4) = true := decide_eq_true c3
        have HK := Aside0.mk (show eIsrRules c i = 70 from by rw [HE.out, b1', b2, b3']; rfl)
        clear HE c2
        go_wp2_with fail
        go_ret
        exact ⟨by rw [HK.out] <;> rfl, HB.out⟩
      · have b3 : decide ((0 : Int) < (n3 : Int) + (n4 : Int)) = false := decide_eq_false (by omega)
        have b3' : decide (0 < n3 + n4) = false := decide_eq_false c3
        have HK := Aside0.mk (show eIsrRules c i = if isrClash c.f8 i t then 70 else 0 from by rw [HE.out, b1', b2, b3']; rfl)
        clear HE c2
        go_wp2_with fail
        go_loopw [42] (fun k wr => ∃ j : Nat, j ≤ i ∧ k = .int .i64 j ∧ Aside0 (Below w1.heap.size w1 wr) ∧ Aside0 (∀ m, m < j → clash (c.f8.getD m z55) t = false)) (fun k _ => i - (intOf k).toNat)
        case atStart => exact ⟨0, by omega, rfl, ⟨Below.refl _ _⟩, ⟨fun m hm => by omega⟩⟩
        case round =>
          obtain ⟨j, hj, rfl, HW, HR⟩ := hrel
          by_cases hlt : j < i
          · have hd : decide ((j : Int) < (i : Int)) = true := decide_eq_true (by omega)
            obtain ⟨u, ad2, D3, d3, D4, d4, hu, e2, HA2, _⟩ := isr_at (H1.out.below HW.out).cf.i j (by omega)
            have hade : ad2 = ad := by
              have := HE16.out.symm.trans e2
              injection this with this
              exact this.symm
            subst hade
            have HU := Aside0.mk HA2
            have HCY := Aside0.mk (fun hc : clash u t = true => show isrClash c.f8 i t = true from clash_yes hlt (by rw [hu]; exact hc))
            have HCN := Aside0.mk (fun hc : clash u t = false => show ∀ m, m < j + 1 → clash (c.f8.getD m z55) t = false from fun m hm => by
              rcases Nat.lt_succ_iff_lt_or_eq.mp hm with h1 | rfl
              · exact HR.out m h1
              · rw [hu]; exact hc)
            clear e2 hu HA2
            have HB3 := Aside0.mk (below_a wr (.cells #[.string u.f0, .int .i64 u.f1, .int .i64 u.f2, .slice D3 u.f3.length d3, .slice D4 u.f4.length d4] 55))
            have y1 := ((HW.out.trans (HB3.out.mono HW.out.size)).cell (World.block_lt_of_cell? w1 _ y1)).trans y1
            have y2 := ((HW.out.trans (HB3.out.mono HW.out.size)).cell (World.block_lt_of_cell? w1 _ y2)).trans y2
            rcases Int.lt_trichotomy u.f2 t.f2 with r2 | r2 | r2
            · rcases Int.lt_trichotomy u.f1 t.f1 with r1 | r1 | r1
              · skip
                have e2 : (u.f2 == t.f2) = false := by rw [beq_eq_false_iff_ne]; omega
                have d1 : decide (t.f1 < u.f1) = false := decide_eq_false (by omega)
                have d2 : decide (t.f2 < u.f2) = false := decide_eq_false (by omega)
                have d3 : decide (u.f1 < t.f1) = true := decide_eq_true (by omega)
                have d4 : decide (u.f2 < t.f2) = true := decide_eq_true (by omega)
                have HC := Aside0.mk (show clash u t = true from by unfold clash; rw [e2, d1, d2, d3, d4]; rfl)
                clear r2 r1
                go_wp2_with (first | ((with_reducible refine gate_dst (N := 45) rfl ?_); refine load55 HU.out rfl (.tmp 44) rfl rfl ?_))
                go_ret
                exact ⟨by rw [HK.out, HCY.out HC.out] <;> rfl, (HB.out.trans (HW.out.mono HB.out.size)).trans ((below_a wr _).mono (HB.out.trans (HW.out.mono HB.out.size)).size)⟩
              · skip
                have e2 : (u.f2 == t.f2) = false := by rw [beq_eq_false_iff_ne]; omega
                have d1 : decide (t.f1 < u.f1) = false := decide_eq_false (by omega)
                have d2 : decide (t.f2 < u.f2) = false := decide_eq_false (by omega)
                have d3 : decide (u.f1 < t.f1) = false := decide_eq_false (by omega)
                have d4 : decide (u.f2 < t.f2) = true := decide_eq_true (by omega)
                have HC := Aside0.mk (show clash u t = false from by unfold clash; rw [e2, d1, d2, d3, d4]; rfl)
                clear r2 r1
                go_wp2_with (first | ((with_reducible refine gate_dst (N := 45) rfl ?_); refine load55 HU.out rfl (.tmp 44) rfl rfl ?_))
                go_roundw
                case rel => exact ⟨j + 1, by omega, by go_num, ⟨HW.out.trans ((below_a wr _).mono HW.out.size)⟩, ⟨HCN.out HC.out⟩⟩
                case measure => simp [intOf]; omega
              · skip
                have e2 : (u.f2 == t.f2) = false := by rw [beq_eq_false_iff_ne]; omega
                have d1 : decide (t.f1 < u.f1) = true := decide_eq_true (by omega)
                have d2 : decide (t.f2 < u.f2) = false := decide_eq_false (by omega)
                have d3 : decide (u.f1 < t.f1) = false := decide_eq_false (by omega)
                have d4 : decide (u.f2 < t.f2) = true := decide_eq_true (by omega)
                have HC := Aside0.mk (show clash u t = false from by unfold clash; rw [e2, d1, d2, d3, d4]; rfl)
                clear r2 r1
                go_wp2_with (first | ((with_reducible refine gate_dst (N := 45) rfl ?_); refine load55 HU.out rfl (.tmp 44) rfl rfl ?_))
                go_roundw
                case rel => exact ⟨j + 1, by omega, by go_num, ⟨HW.out.trans ((below_a wr _).mono HW.out.size)⟩, ⟨HCN.out HC.out⟩⟩
                case measure => simp [intOf]; omega
            · rcases Int.lt_trichotomy u.f1 t.f1 with r1 | r1 | r1
              · skip
                have e2 : (u.f2 == t.f2) = true := by rw [beq_iff_eq]; omega
                have d1 : decide (t.f1 < u.f1) = false := decide_eq_false (by omega)
                have d2 : decide (t.f2 < u.f2) = false := decide_eq_false (by omega)
                have d3 : decide (u.f1 < t.f1) = true := decide_eq_true (by omega)
                have d4 : decide (u.f2 < t.f2) = false := decide_eq_false (by omega)
                have HC := Aside0.mk (show clash u t = true from by unfold clash; rw [e2, d1, d2, d3, d4]; rfl)
                clear r2 r1
                go_wp2_with (first | ((with_reducible refine gate_dst (N := 45) rfl ?_); refine load55 HU.out rfl (.tmp 44) rfl rfl ?_))
                go_ret
                exact ⟨by rw [HK.out, HCY.out HC.out] <;> rfl, (HB.out.trans (HW.out.mono HB.out.size)).trans ((below_a wr _).mono (HB.out.trans (HW.out.mono HB.out.size)).size)⟩
              · skip
                have e2 : (u.f2 == t.f2) = true := by rw [beq_iff_eq]; omega
                have d1 : decide (t.f1 < u.f1) = false := decide_eq_false (by omega)
                have d2 : decide (t.f2 < u.f2) = false := decide_eq_false (by omega)
                have d3 : decide (u.f1 < t.f1) = false := decide_eq_false (by omega)
                have d4 : decide (u.f2 < t.f2) = false := decide_eq_false (by omega)
                have HC := Aside0.mk (show clash u t = true from by unfold clash; rw [e2, d1, d2, d3, d4]; rfl)
                clear r2 r1
                go_wp2_with (first | ((with_reducible refine gate_dst (N := 45) rfl ?_); refine load55 HU.out rfl (.tmp 44) rfl rfl ?_))
                go_ret
                exact ⟨by rw [HK.out, HCY.out HC.out] <;> rfl, (HB.out.trans (HW.out.mono HB.out.size)).trans ((below_a wr _).mono (HB.out.trans (HW.out.mono HB.out.size)).size)⟩
              · skip
                have e2 : (u.f2 == t.f2) = true := by rw [beq_iff_eq]; omega
                have d1 : decide (t.f1 < u.f1) = true := decide_eq_true (by omega)
                have d2 : decide (t.f2 < u.f2) = false := decide_eq_false (by omega)
                have d3 : decide (u.f1 < t.f1) = false := decide_eq_false (by omega)
                have d4 : decide (u.f2 < t.f2) = false := decide_eq_false (by omega)
                have HC := Aside0.mk (show clash u t = true from by unfold clash; rw [e2, d1, d2, d3, d4]; rfl)
                clear r2 r1
                go_wp2_with (first | ((with_reducible refine gate_dst (N := 45) rfl ?_); refine load55 HU.out rfl (.tmp 44) rfl rfl ?_))
                go_ret
                exact ⟨by rw [HK.out, HCY.out HC.out] <;> rfl, (HB.out.trans (HW.out.mono HB.out.size)).trans ((below_a wr _).mono (HB.out.trans (HW.out.mono HB.out.size)).size)⟩
            · rcases Int.lt_trichotomy u.f1 t.f1 with r1 | r1 | r1
              · skip
                have e2 : (u.f2 == t.f2) = false := by rw [beq_eq_false_iff_ne]; omega
                have d1 : decide (t.f1 < u.f1) = false := decide_eq_false (by omega)
                have d2 : decide (t.f2 < u.f2) = true := decide_eq_true (by omega)
                have d3 : decide (u.f1 < t.f1) = true := decide_eq_true (by omega)
                have d4 : decide (u.f2 < t.f2) = false := decide_eq_false (by omega)
                have HC := Aside0.mk (show clash u t = false from by unfold clash; rw [e2, d1, d2, d3, d4]; rfl)
                clear r2 r1
                go_wp2_with (first | ((with_reducible refine gate_dst (N := 45) rfl ?_); refine load55 HU.out rfl (.tmp 44) rfl rfl ?_))
                go_roundw
                case rel => exact ⟨j + 1, by omega, by go_num, ⟨HW.out.trans ((below_a wr _).mono HW.out.size)⟩, ⟨HCN.out HC.out⟩⟩
                case measure => simp [intOf]; omega
              · skip
                have e2 : (u.f2 == t.f2) = false := by rw [beq_eq_false_iff_ne]; omega
                have d1 : decide (t.f1 < u.f1) = false := decide_eq_false (by omega)
                have d2 : decide (t.f2 < u.f2) = true := decide_eq_true (by omega)
                have d3 : decide (u.f1 < t.f1) = false := decide_eq_false (by omega)
                have d4 : decide (u.f2 < t.f2) = false := decide_eq_false (by omega)
                have HC := Aside0.mk (show clash u t = false from by unfold clash; rw [e2, d1, d2, d3, d4]; rfl)
                clear r2 r1
                go_wp2_with (first | ((with_reducible refine gate_dst (N := 45) rfl ?_); refine load55 HU.out rfl (.tmp 44) rfl rfl ?_))
                go_roundw
                case rel => exact ⟨j + 1, by omega, by go_num, ⟨HW.out.trans ((below_a wr _).mono HW.out.size)⟩, ⟨HCN.out HC.out⟩⟩
                case measure => simp [intOf]; omega
              · skip
                have e2 : (u.f2 == t.f2) = false := by rw [beq_eq_false_iff_ne]; omega
                have d1 : decide (t.f1 < u.f1) = true := decide_eq_true (by omega)
                have d2 : decide (t.f2 < u.f2) = true := decide_eq_true (by omega)
                have d3 : decide (u.f1 < t.f1) = false := decide_eq_false (by omega)
                have d4 : decide (u.f2 < t.f2) = false := decide_eq_false (by omega)
                have HC := Aside0.mk (show clash u t = true from by unfold clash; rw [e2, d1, d2, d3, d4]; rfl)
                clear r2 r1
                go_wp2_with (first | ((with_reducible refine gate_dst (N := 45) rfl ?_); refine load55 HU.out rfl (.tmp 44) rfl rfl ?_))
                go_ret
                exact ⟨by rw [HK.out, HCY.out HC.out] <;> rfl, (HB.out.trans (HW.out.mono HB.out.size)).trans ((below_a wr _).mono (HB.out.trans (HW.out.mono HB.out.size)).size)⟩
          · have hd : decide ((j : Int) < (i : Int)) = false := decide_eq_false (by omega)
            have HN := Aside0.mk (show isrClash c.f8 i t = false from clash_no (fun m hm => HR.out m (by omega)))
            go_wp2_with fail
            go_ret
            exact ⟨by rw [HK.out, HN.out] <;> rfl, HB.out.trans (HW.out.mono HB.out.size)⟩
    · have b2 : (t.f1 == 1) = false := by simp [c2]
      have HK := Aside0.mk (show eIsrRules c i = if isrClash c.f8 i t then 70 else 0 from by rw [HE.out, b1', b2]; rfl)
      clear HE c2
      go_wp2_with fail
      go_loopw [42] (fun k wr => ∃ j : Nat, j ≤ i ∧ k = .int .i64 j ∧ Aside0 (Below w1.heap.size w1 wr) ∧ Aside0 (∀ m, m < j → clash (c.f8.getD m z55) t = false)) (fun k _ => i - (intOf k).toNat)
      case atStart => exact ⟨0, by omega, rfl, ⟨Below.refl _ _⟩, ⟨fun m hm => by omega⟩⟩
      case round =>
        obtain ⟨j, hj, rfl, HW, HR⟩ := hrel
        by_cases hlt : j < i
        · have hd : decide ((j : Int) < (i : Int)) = true := decide_eq_true (by omega)
          obtain ⟨u, ad2, D3, d3, D4, d4, hu, e2, HA2, _⟩ := isr_at (H1.out.below HW.out).cf.i j (by omega)
          have hade : ad2 = ad := by
            have := HE16.out.symm.trans e2
            injection this with this
            exact this.symm
          subst hade
          have HU := Aside0.mk HA2
          have HCY := Aside0.mk (fun hc : clash u t = true => show isrClash c.f8 i t = true from clash_yes hlt (by rw [hu]; exact hc))
          have HCN := Aside0.mk (fun hc : clash u t = false => show ∀ m, m < j + 1 → clash (c.f8.getD m z55) t = false from fun m hm => by
            rcases Nat.lt_succ_iff_lt_or_eq.mp hm with h1 | rfl
            · exact HR.out m h1
            · rw [hu]; exact hc)
          clear e2 hu HA2
          have HB3 := Aside0.mk (below_a wr (.cells #[.string u.f0, .int .i64 u.f1, .int .i64 u.f2, .slice D3 u.f3.length d3, .slice D4 u.f4.length d4] 55))
          have y1 := ((HW.out.trans (HB3.out.mono HW.out.size)).cell (World.block_lt_of_cell? w1 _ y1)).trans y1
          have y2 := ((HW.out.trans (HB3.out.mono HW.out.size)).cell (World.block_lt_of_cell? w1 _ y2)).trans y2
          rcases Int.lt_trichotomy u.f2 t.f2 with r2 | r2 | r2
          · rcases Int.lt_trichotomy u.f1 t.f1 with r1 | r1 | r1
            · skip
              have e2 : (u.f2 == t.f2) = false := by rw [beq_eq_false_iff_ne]; omega
              have d1 : decide (t.f1 < u.f1) = false := decide_eq_false (by omega)
              have d2 : decide (t.f2 < u.f2) = false := decide_eq_false (by omega)
              have d3 : decide (u.f1 < t.f1) = true := decide_eq_true (by omega)
              have d4 : decide (u.f2 < t.f2) = true := decide_eq_true (by omega)
              have HC := Aside0.mk (show clash u t = true from by unfold clash; rw [e2, d1, d2, d3, d4]; rfl)
              clear r2 r1
              go_wp2_with (first | ((with_reducible refine gate_dst (N := 45) rfl ?_); refine load55 HU.out rfl (.tmp 44) rfl rfl ?_))
              go_ret
              exact ⟨by rw [HK.out, HCY.out HC.out] <;> rfl, (HB.out.trans (HW.out.mono HB.out.size)).trans ((below_a wr _).mono (HB.out.trans (HW.out.mono HB.out.size)).size)⟩
            · skip
              have e2 : (u.f2 == t.f2) = false := by rw [beq_eq_false_iff_ne]; omega
              have d1 : decide (t.f1 < u.f1) = false := decide_eq_false (by omega)
              have d2 : decide (t.f2 < u.f2) = false := decide_eq_false (by omega)
              have d3 : decide (u.f1 < t.f1) = false := decide_eq_false (by omega)
              have d4 : decide (u.f2 < t.f2) = true := decide_eq_true (by omega)
              have HC := Aside0.mk (show clash u t = false from by unfold clash; rw [e2, d1, d2, d3, d4]; rfl)
              clear r2 r1
              go_wp2_with (first | ((with_reducible refine gate_dst (N := 45) rfl ?_); refine load55 HU.out rfl (.tmp 44) rfl rfl ?_))
              go_roundw
              case rel => exact ⟨j + 1, by omega, by go_num, ⟨HW.out.trans ((below_a wr _).mono HW.out.size)⟩, ⟨HCN.out HC.out⟩⟩
              case measure => simp [intOf]; omega
            · skip
              have e2 : (u.f2 == t.f2) = false := by rw [beq_eq_false_iff_ne]; omega
              have d1 : decide (t.f1 < u.f1) = true := decide_eq_true (by omega)
              have d2 : decide (t.f2 < u.f2) = false := decide_eq_false (by omega)
              have d3 : decide (u.f1 < t.f1) = false := decide_eq_false (by omega)
              have d4 : decide (u.f2 < t.f2) = true := decide_eq_true (by omega)
              have HC := Aside0.mk (show clash u t = false from by unfold clash; rw [e2, d1, d2, d3, d4]; rfl)
              clear r2 r1
              go_wp2_with (first | ((with_reducible refine gate_dst (N := 45) rfl ?_); refine load55 HU.out rfl (.tmp 44) rfl rfl ?_))
              go_roundw
              case rel => exact ⟨j + 1, by omega, by go_num, ⟨HW.out.trans ((below_a wr _).mono HW.out.size)⟩, ⟨HCN.out HC.out⟩⟩
              case measure => simp [intOf]; omega
          · rcases Int.lt_trichotomy u.f1 t.f1 with r1 | r1 | r1
            · skip
              have e2 : (u.f2 == t.f2) = true := by rw [beq_iff_eq]; omega
              have d1 : decide (t.f1 < u.f1) = false := decide_eq_false (by omega)
              have d2 : decide (t.f2 < u.f2) = false := decide_eq_false (by omega)
              have d3 : decide (u.f1 < t.f1) = true := decide_eq_true (by omega)
              have d4 : decide (u.f2 < t.f2) = false := decide_eq_false (by omega)
              have HC := Aside0.mk (show clash u t = true from by unfold clash; rw [e2, d1, d2, d3, d4]; rfl)
              clear r2 r1
              go_wp2_with (first | ((with_reducible refine gate_dst (N := 45) rfl ?_); refine load55 HU.out rfl (.tmp 44) rfl rfl ?_))
              go_ret
              exact ⟨by rw [HK.out, HCY.out HC.out] <;> rfl, (HB.out.trans (HW.out.mono HB.out.size)).trans ((below_a wr _).mono (HB.out.trans (HW.out.mono HB.out.size)).size)⟩
            · skip
              have e2 : (u.f2 == t.f2) = true := by rw [beq_iff_eq]; omega
              have d1 : decide (t.f1 < u.f1) = false := decide_eq_false (by omega)
              have d2 : decide (t.f2 < u.f2) = false := decide_eq_false (by omega)
              have d3 : decide (u.f1 < t.f1) = false := decide_eq_false (by omega)
              have d4 : decide (u.f2 < t.f2) = false := decide_eq_false (by omega)
              have HC := Aside0.mk (show clash u t = true from by unfold clash; rw [e2, d1, d2, d3, d4]; rfl)
              clear r2 r1
              go_wp2_with (first | ((with_reducible refine gate_dst (N := 45) rfl ?_); refine load55 HU.out rfl (.tmp 44) rfl rfl ?_))
              go_ret
              exact ⟨by rw [HK.out, HCY.out HC.out] <;> rfl, (HB.out.trans (HW.out.mono HB.out.size)).trans ((below_a wr _).mono (HB.out.trans (HW.out.mono HB.out.size)).size)⟩
            · skip
              have e2 : (u.f2 == t.f2) = true := by rw [beq_iff_eq]; omega
              have d1 : decide (t.f1 < u.f1) = true := decide_eq_true (by omega)
              have d2 : decide (t.f2 < u.f2) = false := decide_eq_false (by omega)
              have d3 : decide (u.f1 < t.f1) = false := decide_eq_false (by omega)
              have d4 : decide (u.f2 < t.f2) = false := decide_eq_false (by omega)
              have HC := Aside0.mk (show clash u t = true from by unfold clash; rw [e2, d1, d2, d3, d4]; rfl)
              clear r2 r1
              go_wp2_with (first | ((with_reducible refine gate_dst (N := 45) rfl ?_); refine load55 HU.out rfl (.tmp 44) rfl rfl ?_))
              go_ret
              exact ⟨by rw [HK.out, HCY.out HC.out] <;> rfl, (HB.out.trans (HW.out.mono HB.out.size)).trans ((below_a wr _).mono (HB.out.trans (HW.out.mono HB.out.size)).size)⟩
          · rcases Int.lt_trichotomy u.f1 t.f1 with r1 | r1 | r1
            · skip
              have e2 : (u.f2 == t.f2) = false := by rw [beq_eq_false_iff_ne]; omega
              have d1 : decide (t.f1 < u.f1) = false := decide_eq_false (by omega)
              have d2 : decide (t.f2 < u.f2) = true := decide_eq_true (by omega)
              have d3 : decide (u.f1 < t.f1) = true := decide_eq_true (by omega)
              have d4 : decide (u.f2 < t.f2) = false := decide_eq_false (by omega)
              have HC := Aside0.mk (show clash u t = false from by unfold clash; rw [e2, d1, d2, d3, d4]; rfl)
              clear r2 r1
              go_wp2_with (first | ((with_reducible refine gate_dst (N := 45) rfl ?_); refine load55 HU.out rfl (.tmp 44) rfl rfl ?_))
              go_roundw
              case rel => exact ⟨j + 1, by omega, by go_num, ⟨HW.out.trans ((below_a wr _).mono HW.out.size)⟩, ⟨HCN.out HC.out⟩⟩
              case measure => simp [intOf]; omega
            · skip
              have e2 : (u.f2 == t.f2) = false := by rw [beq_eq_false_iff_ne]; omega
              have d1 : decide (t.f1 < u.f1) = false := decide_eq_false (by omega)
              have d2 : decide (t.f2 < u.f2) = true := decide_eq_true (by omega)
              have d3 : decide (u.f1 < t.f1) = false := decide_eq_false (by omega)
              have d4 : decide (u.f2 < t.f2) = false := decide_eq_false (by omega)
              have HC := Aside0.mk (show clash u t = false from by unfold clash; rw [e2, d1, d2, d3, d4]; rfl)
              clear r2 r1
              go_wp2_with (first | ((with_reducible refine gate_dst (N := 45) rfl ?_); refine load55 HU.out rfl (.tmp 44) rfl rfl ?_))
              go_roundw
              case rel => exact ⟨j + 1, by omega, by go_num, ⟨HW.out.trans ((below_a wr _).mono HW.out.size)⟩, ⟨HCN.out HC.out⟩⟩
              case measure => simp [intOf]; omega
            · skip
              have e2 : (u.f2 == t.f2) = false := by rw [beq_eq_false_iff_ne]; omega
              have d1 : decide (t.f1 < u.f1) = true := decide_eq_true (by omega)
              have d2 : decide (t.f2 < u.f2) = true := decide_eq_true (by omega)
              have d3 : decide (u.f1 < t.f1) = false := decide_eq_false (by omega)
              have d4 : decide (u.f2 < t.f2) = false := decide_eq_false (by omega)
              have HC := Aside0.mk (show clash u t = true from by unfold clash; rw [e2, d1, d2, d3, d4]; rfl)
              clear r2 r1
              go_wp2_with (first | ((with_reducible refine gate_dst (N := 45) rfl ?_); refine load55 HU.out rfl (.tmp 44) rfl rfl ?_))
              go_ret
              exact ⟨by rw [HK.out, HCY.out HC.out] <;> rfl, (HB.out.trans (HW.out.mono HB.out.size)).trans ((below_a wr _).mono (HB.out.trans (HW.out.mono HB.out.size)).size)⟩
        · have hd : decide ((j : Int) < (i : Int)) = false := decide_eq_false (by omega)
          have HN := Aside0.mk (show isrClash c.f8 i t = false from clash_no (fun m hm => HR.out m (by omega)))
          go_wp2_with fail
          go_ret
          exact ⟨by rw [HK.out, HN.out] <;> rfl, HB.out.trans (HW.out.mono HB.out.size)⟩
end Go.Proofs.YthckjbmgeidkgaaDoor.XA
