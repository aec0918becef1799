/- alarms and actions: checks of package class. -/
import Derived.Test.YthckjbmgeidkgaaDoorHTask
namespace Go.Proofs.YthckjbmgeidkgaaDoor.XA
set_option linter.unusedVariables false
set_option linter.unusedSimpArgs false
open Go.RowKit Go.WideMaps Go.Maps Go.Proofs.YthckjbmgeidkgaaDoorW.PrintWords Go.Proofs.YthckjbmgeidkgaaDoorW.PrintLast Go.Proofs.YthckjbmgeidkgaaDoorW.PrintMore
def eAlmCtr (c : S33) (i : Nat) : Int := if decide (0 ≤ (c.f7.getD i z60).f1) && decide ((c.f7.getD i z60).f1 < c.f6.length) then 0 else 73
set_option maxRecDepth 1000000 in
set_option maxHeartbeats 4000000 in
theorem almCtr_chk : Chk 50 (fun c => c.f7.length) (fun _ _ => True) eAlmCtr := by
  intro w B V c i h hi _
  obtain ⟨t, ad, A6, c6, ht, e, HA, _⟩ := alm_at h.cf.a i hi
  have q14 := h.cell14
  have q15 := h.cell15
  rw [e] at q15
  have g1 := HA.g1
  have HE := Aside0.mk (show eAlmCtr c i = if decide (0 ≤ t.f1) && decide (t.f1 < c.f6.length) then 0 else 73 from by unfold eAlmCtr; rw [ht])
  clear h e ht HA
  generalize t.f1 = n at *
  go_enter Tryd.func50, Tryd.ntmps50
  go_wp2_with fail
  all_goals
    refine (unless_calls _ _ _).mono ?_
    rintro e w' ⟨rfl, rfl⟩
    go_wp2_with fail
    all_goals
      go_ret
      refine ⟨?_, Below.refl _ _⟩
      rw [HE.out]
      refine congrArg (fun z => Ending.returned (Value.int .i64 z)) ?_
      simp [*]
      try omega
def eAlmModes (c : S33) (i : Nat) : Int := if riseB c.f2.length (c.f7.getD i z60).f3 then 0 else 73
set_option maxRecDepth 1000000 in
set_option maxHeartbeats 4000000 in
theorem almModes_chk : Chk 52 (fun c => c.f7.length) (fun _ _ => True) eAlmModes := by
  intro w B V c i h hi _
  obtain ⟨t, ad, A6, c6, ht, e, HA, l6, g6⟩ := alm_at h.cf.a i hi
  have q10 := h.cell10
  have q15 := h.cell15
  rw [e] at q15
  have g := HA.g6
  have HE := Aside0.mk (show eAlmModes c i = if riseB c.f2.length t.f3 then 0 else 73 from by unfold eAlmModes; rw [ht])
  have R := Aside0.mk (fun n => rise_calls A6 c6 t.f3 c.f2.length (w.drewN n) (Kd.C_below g6 (drewN_below w n)) l6)
  clear h e ht HA g6 l6
  generalize riseB c.f2.length t.f3 = k at *
  go_enter Tryd.func52, Tryd.ntmps52
  go_wp2_with fail
  cases k
  all_goals
    go_quiet (first | (go_at_call 77; with_reducible refine Calls.quiet_of_same (R.out _)) | (go_at_call 38; refine Calls.quiet_of_same (unless_calls _ _ _)))
    go_wp2_with fail
    go_ret
    refine ⟨?_, drewN_below _ _⟩
    rw [HE.out]
    refine congrArg (fun z => Ending.returned (Value.int .i64 z)) ?_
    simp [*]
    try omega
def almTimes (x : S62) (t : S60) : Bool := if t.f3.length = 0 then t.f4 == 0 && t.f5 == 0 else decide (1 ≤ t.f4) && decide (t.f4 ≤ x.f1) && (t.f5 == 0 || decide (x.f3 ≤ t.f5) && decide (t.f5 ≤ x.f1))
def eAlmTimes (c : S33) (i : Nat) : Int := if almTimes (c.f6.getD (c.f7.getD i z60).f1.toNat z62) (c.f7.getD i z60) then 0 else 74
set_option maxRecDepth 1000000 in
set_option maxHeartbeats 4000000 in
theorem almTimes_chk : Chk 53 (fun c => c.f7.length) (fun c i => eAlmCtr c i = 0) eAlmTimes := by
  intro w B V c i h hi hpre
  obtain ⟨t, ad, A6, c6, ht, e, HA, l6, g6⟩ := alm_at h.cf.a i hi
  unfold eAlmCtr at hpre
  rw [ht] at hpre
  obtain ⟨p, hp, hpl⟩ : ∃ p : Nat, t.f1 = p ∧ p < c.f6.length := by
    split at hpre
    · rename_i hb
      simp at hb
      exact ⟨t.f1.toNat, by omega, by omega⟩
    · omega
  obtain ⟨x, ad2, hx, e2, HA2⟩ := ctr_at h.cf.x p hpl
  have q14 := h.cell14
  rw [e2] at q14
  have q15 := h.cell15
  rw [e] at q15
  have HAX := Aside0.mk HA
  have HA2X := Aside0.mk HA2
  have HE := Aside0.mk (show eAlmTimes c i = if almTimes x t then 0 else 74 from by unfold eAlmTimes; rw [ht, hp, Int.toNat_natCast, hx])
  have HP := Aside0.mk hp
  clear h e e2 ht hx HA HA2 hpre l6 g6 hp
  go_enter Tryd.func53, Tryd.ntmps53
  go_wp2_with (first | ((with_reducible refine gate_dst (N := 13) rfl ?_); refine load60 HAX.out rfl (.tmp 12) rfl rfl ?_))
  have HB := Aside0.mk (below_a w (.cells #[.string t.f0, .int .i64 t.f1, .int .i64 t.f2.f0, .int .i64 t.f2.f1, .int .i64 t.f2.f2, .string t.f2.f3, .slice A6 t.f3.length c6, .int .u32 t.f4, .int .u32 t.f5] 60))
  have y1 : (w.alloc (.cells #[.string t.f0, .int .i64 t.f1, .int .i64 t.f2.f0, .int .i64 t.f2.f1, .int .i64 t.f2.f2, .string t.f2.f3, .slice A6 t.f3.length c6, .int .u32 t.f4, .int .u32 t.f5] 60)).cell? ⟨w.heap.size, 1, none⟩ = some (.int .i64 t.f1) := by simp
  have y3 : (w.alloc (.cells #[.string t.f0, .int .i64 t.f1, .int .i64 t.f2.f0, .int .i64 t.f2.f1, .int .i64 t.f2.f2, .string t.f2.f3, .slice A6 t.f3.length c6, .int .u32 t.f4, .int .u32 t.f5] 60)).cell? ⟨w.heap.size, 6, none⟩ = some (.slice A6 t.f3.length c6) := by simp
  have y4 : (w.alloc (.cells #[.string t.f0, .int .i64 t.f1, .int .i64 t.f2.f0, .int .i64 t.f2.f1, .int .i64 t.f2.f2, .string t.f2.f3, .slice A6 t.f3.length c6, .int .u32 t.f4, .int .u32 t.f5] 60)).cell? ⟨w.heap.size, 7, none⟩ = some (.int .u32 t.f4) := by simp
  have y5 : (w.alloc (.cells #[.string t.f0, .int .i64 t.f1, .int .i64 t.f2.f0, .int .i64 t.f2.f1, .int .i64 t.f2.f2, .string t.f2.f3, .slice A6 t.f3.length c6, .int .u32 t.f4, .int .u32 t.f5] 60)).cell? ⟨w.heap.size, 8, none⟩ = some (.int .u32 t.f5) := by simp
  have q14 := (HB.out.cell (World.block_lt_of_cell? w _ q14)).trans q14
  have H2 := Aside0.mk (HA2X.out.below HB.out)
  generalize w.alloc (.cells #[.string t.f0, .int .i64 t.f1, .int .i64 t.f2.f0, .int .i64 t.f2.f1, .int .i64 t.f2.f2, .string t.f2.f3, .slice A6 t.f3.length c6, .int .u32 t.f4, .int .u32 t.f5] 60) = w1 at *
  have hsz : w.heap.size < w1.heap.size := World.block_lt_of_cell? w1 _ y1
  rw [HP.out] at y1
  have m0 := H2.out.g0
  have m1 := H2.out.g1
  have m2 := H2.out.g2
  have m3 := H2.out.g3
  clear HAX HA2X q15
  have zq14 := (World.cell?_alloc_lt w1 (.cells #[.string ⟨#[]⟩, .int .u32 0, .int .u32 0, .int .u32 0] 62) _ (World.block_lt_of_cell? w1 _ q14)).trans q14
  have zy1 := (World.cell?_alloc_lt w1 (.cells #[.string ⟨#[]⟩, .int .u32 0, .int .u32 0, .int .u32 0] 62) _ (World.block_lt_of_cell? w1 _ y1)).trans y1
  have zm0 := (World.cell?_alloc_lt w1 (.cells #[.string ⟨#[]⟩, .int .u32 0, .int .u32 0, .int .u32 0] 62) _ (World.block_lt_of_cell? w1 _ m0)).trans m0
  have zm1 := (World.cell?_alloc_lt w1 (.cells #[.string ⟨#[]⟩, .int .u32 0, .int .u32 0, .int .u32 0] 62) _ (World.block_lt_of_cell? w1 _ m1)).trans m1
  have zm2 := (World.cell?_alloc_lt w1 (.cells #[.string ⟨#[]⟩, .int .u32 0, .int .u32 0, .int .u32 0] 62) _ (World.block_lt_of_cell? w1 _ m2)).trans m2
  have zm3 := (World.cell?_alloc_lt w1 (.cells #[.string ⟨#[]⟩, .int .u32 0, .int .u32 0, .int .u32 0] 62) _ (World.block_lt_of_cell? w1 _ m3)).trans m3
  go_region
  clear zq14 zy1 zm0 zm1 zm2 zm3 m0 m1 m2 m3 y1 q14 H2
  have HB2 := Aside0.mk (show Below w1.heap.size w1 (w1.alloc (.cells #[.string x.f0, .int .u32 x.f1, .int .u32 x.f2, .int .u32 x.f3] 62)).drew from (below_a w1 _).trans ((drew_below _).mono (below_a w1 _).size))
  have v1 : (w1.alloc (.cells #[.string x.f0, .int .u32 x.f1, .int .u32 x.f2, .int .u32 x.f3] 62)).drew.cell? ⟨w1.heap.size, 1, none⟩ = some (.int .u32 x.f1) := by simp
  have v3 : (w1.alloc (.cells #[.string x.f0, .int .u32 x.f1, .int .u32 x.f2, .int .u32 x.f3] 62)).drew.cell? ⟨w1.heap.size, 3, none⟩ = some (.int .u32 x.f3) := by simp
  have y3 := (HB2.out.cell (World.block_lt_of_cell? w1 _ y3)).trans y3
  have y4 := (HB2.out.cell (World.block_lt_of_cell? w1 _ y4)).trans y4
  have y5 := (HB2.out.cell (World.block_lt_of_cell? w1 _ y5)).trans y5
  generalize (w1.alloc (.cells #[.string x.f0, .int .u32 x.f1, .int .u32 x.f2, .int .u32 x.f3] 62)).drew = w2 at *
  have HBB := Aside0.mk (HB.out.trans (HB2.out.mono HB.out.size))
  clear HB HB2
  unfold almTimes at HE
  generalize t.f3.length = n at *
  generalize t.f4 = f4 at *
  generalize t.f5 = f5 at *
  generalize x.f1 = x1 at *
  generalize x.f3 = x3 at *
  change (Exit.then _ _ Exit.normal _ w2)
  by_cases e0 : n = 0
  · have z0 : ((n : Int) == 0) = true := by rw [beq_iff_eq]; omega
    have z1 : (n == 0) = true := by rw [beq_iff_eq]; exact e0
    have HE := Aside0.mk (show eAlmTimes c i = if (f4 == 0 && f5 == 0) then 0 else 74 from by rw [HE.out, if_pos e0])
    clear e0
    go_wp2_with fail
    all_goals
      refine (unless_calls _ _ _).mono ?_
      rintro e w' ⟨rfl, rfl⟩
      go_wp2_with fail
      all_goals
        go_ret
        refine ⟨?_, HBB.out⟩
        rw [HE.out]
        refine congrArg (fun z => Ending.returned (Value.int .i64 z)) ?_
        simp [*]
        try omega
  · have z0 : ((n : Int) == 0) = false := by rw [beq_eq_false_iff_ne]; omega
    have z1 : (n == 0) = false := by rw [beq_eq_false_iff_ne]; exact e0
    have HE := Aside0.mk (show eAlmTimes c i = if (decide (1 ≤ f4) && decide (f4 ≤ x1) && (f5 == 0 || decide (x3 ≤ f5) && decide (f5 ≤ x1))) then 0 else 74 from by rw [HE.out, if_neg e0])
    clear e0
    go_wp2_with fail
    all_goals
      refine (unless_calls _ _ _).mono ?_
      rintro e w' ⟨rfl, rfl⟩
      go_wp2_with fail
      all_goals
        go_ret
        refine ⟨?_, HBB.out⟩
        rw [HE.out]
        refine congrArg (fun z => Ending.returned (Value.int .i64 z)) ?_
        simp [*]
        try omega
end Go.Proofs.YthckjbmgeidkgaaDoor.XA
