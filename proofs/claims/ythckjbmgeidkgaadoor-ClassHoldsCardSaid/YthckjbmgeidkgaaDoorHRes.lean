/- resources and counters, tasks without their rules: checks of package class. -/
import Derived.Test.YthckjbmgeidkgaaDoorHName
namespace Go.Proofs.YthckjbmgeidkgaaDoor.XA
set_option linter.unusedVariables false
set_option linter.unusedSimpArgs false
open Go.RowKit Go.WideMaps Go.Maps Go.Proofs.YthckjbmgeidkgaaDoorW.PrintWords Go.Proofs.YthckjbmgeidkgaaDoorW.PrintLast Go.Proofs.YthckjbmgeidkgaaDoorW.PrintMore
/-- a check: its answer at the object of a number -/
def Chk (f : Nat) (n : S33 → Nat) (pre : S33 → Nat → Prop) (E : S33 → Nat → Int) : Prop := ∀ (w : World) (B : Nat) (V : CV) (c : S33) (i : Nat), At w B V c → i < n c → pre c i →
  Calls Tryd.prog f #[.pointer (some ⟨B, 0, none⟩), .int .i64 i] w fun e w' => e = .returned (.int .i64 (E c i)) ∧ Below w.heap.size w w'
theorem below_ad (w : World) (o : Obj) (n : Nat) : Below w.heap.size w ((w.alloc o).drewN n) := by
  have h : Below w.heap.size w (w.alloc o) := (Below.refl _ _).alloc (Nat.le_refl _) _
  exact h.trans ((drewN_below _ _).mono h.size)
theorem below_a (w : World) (o : Obj) : Below w.heap.size w (w.alloc o) := (Below.refl _ _).alloc (Nat.le_refl _) _
def resVal (t : S65) : Bool := decide (1 ≤ t.f1) && decide (t.f1 ≤ 3) && (t.f1 == 2 || t.f2 == 0)
def eResVal (c : S33) (i : Nat) : Int := if resVal (c.f4.getD i z65) then 0 else 74
set_option maxRecDepth 1000000 in
set_option maxHeartbeats 4000000 in
theorem resVal_chk : Chk 32 (fun c => c.f4.length) (fun _ _ => True) eResVal := by
  intro w B V c i h hi _
  obtain ⟨t, ad, ht, e, HA⟩ := res_at h.cf.r i hi
  have q12 := h.cell12
  rw [e] at q12
  have HAX := Aside0.mk HA
  have HE := Aside0.mk (show eResVal c i = if resVal t then 0 else 74 from by unfold eResVal; rw [ht])
  clear h e ht HA
  go_enter Tryd.func32, Tryd.ntmps32
  go_wp2_with (first | ((with_reducible refine gate_dst (N := 12) rfl ?_); refine load65 HAX.out rfl (.tmp 11) rfl rfl ?_))
  all_goals
    refine (unless_calls _ _ _).mono ?_
    rintro e w' ⟨rfl, rfl⟩
    go_wp2_with fail
    all_goals
      go_ret
      refine ⟨?_, below_a _ _⟩
      rw [HE.out]
      clear HE HAX
      refine congrArg (fun z => Ending.returned (Value.int .i64 z)) ?_
      unfold resVal
      simp [*]
      try omega
def resLink (n : Nat) (t : S65) : Bool := t.f1 != 2 || (decide (0 ≤ t.f2) && decide (t.f2 < n))
def eResLink (c : S33) (i : Nat) : Int := if resLink c.f4.length (c.f4.getD i z65) then 0 else 73
set_option maxRecDepth 1000000 in
set_option maxHeartbeats 4000000 in
theorem resLink_chk : Chk 33 (fun c => c.f4.length) (fun _ _ => True) eResLink := by
  intro w B V c i h hi _
  obtain ⟨t, ad, ht, e, HA⟩ := res_at h.cf.r i hi
  have q12 := h.cell12
  rw [e] at q12
  have HAX := Aside0.mk HA
  have HE := Aside0.mk (show eResLink c i = if resLink c.f4.length t then 0 else 73 from by unfold eResLink; rw [ht])
  clear h e ht HA
  go_enter Tryd.func33, Tryd.ntmps33
  go_wp2_with (first | ((with_reducible refine gate_dst (N := 12) rfl ?_); refine load65 HAX.out rfl (.tmp 11) rfl rfl ?_))
  have HB := Aside0.mk (below_a w (.cells #[.string t.f0, .int .i64 t.f1, .int .i64 t.f2] 65))
  have y1 : (w.alloc (.cells #[.string t.f0, .int .i64 t.f1, .int .i64 t.f2] 65)).cell? ⟨w.heap.size, 1, none⟩ = some (.int .i64 t.f1) := by simp
  have y2 : (w.alloc (.cells #[.string t.f0, .int .i64 t.f1, .int .i64 t.f2] 65)).cell? ⟨w.heap.size, 2, none⟩ = some (.int .i64 t.f2) := by simp
  have q12 := (HB.out.cell (World.block_lt_of_cell? w _ q12)).trans q12
  generalize w.alloc (.cells #[.string t.f0, .int .i64 t.f1, .int .i64 t.f2] 65) = w1 at *
  by_cases h1 : t.f1 = 2
  · have b1 : (t.f1 != 2) = false := by simp [h1]
    by_cases h2 : 0 ≤ t.f2
    · have b2 : decide (0 ≤ t.f2) = true := decide_eq_true h2
      have HK := Aside0.mk (show eResLink c i = if decide (t.f2 < c.f4.length) then 0 else 73 from by rw [HE.out]; unfold resLink; rw [b1, b2]; rfl)
      clear HE
      go_quiet (first | (go_at_call 38; refine Calls.quiet_of_same (unless_calls _ _ _)))
      go_wp2_with fail
      all_goals
        go_ret
        refine ⟨?_, HB.out.trans ((drewN_below _ _).mono HB.out.size)⟩
        rw [HK.out]
        refine congrArg (fun z => Ending.returned (Value.int .i64 z)) ?_
        simp [*]
        try omega
    · have b2 : decide (0 ≤ t.f2) = false := decide_eq_false h2
      have HK := Aside0.mk (show eResLink c i = 73 from by rw [HE.out]; unfold resLink; rw [b1, b2]; rfl)
      clear HE
      go_quiet (first | (go_at_call 38; refine Calls.quiet_of_same (unless_calls _ _ _)))
      go_wp2_with fail
      go_ret
      exact ⟨by rw [HK.out]; rfl, HB.out.trans ((drewN_below _ _).mono HB.out.size)⟩
  · have b1 : (t.f1 != 2) = true := by simp [h1]
    have HK := Aside0.mk (show eResLink c i = 0 from by rw [HE.out]; unfold resLink; rw [b1]; rfl)
    clear HE
    go_quiet (first | (go_at_call 38; refine Calls.quiet_of_same (unless_calls _ _ _)))
    go_wp2_with fail
    go_ret
    exact ⟨by rw [HK.out]; rfl, HB.out.trans ((drewN_below _ _).mono HB.out.size)⟩
theorem rootI_range (rs : List S65) : ∀ (n : Nat) (r : Int), 0 ≤ rootI rs n r → rootI rs n r < rs.length ∧ kindR rs (rootI rs n r).toNat ≠ 2
  | 0, r, h => by simp [rootI] at h
  | n + 1, r, h => by
    unfold rootI at h ⊢
    split at h
    · omega
    · split at h
      · rename_i h1 h2
        rw [if_neg h1, if_pos h2]
        exact ⟨by omega, h2⟩
      · rename_i h1 h2
        rw [if_neg h1, if_neg h2]
        exact rootI_range rs n _ h
def resEnds (rs : List S65) (i : Nat) : Bool := kindR rs i != 2 || (decide (0 ≤ rootV rs i) && kindR rs (rootV rs i).toNat == 1)
def eResEnds (c : S33) (i : Nat) : Int := if resEnds c.f4 i then 0 else 70
set_option maxRecDepth 1000000 in
set_option maxHeartbeats 4000000 in
theorem resEnds_chk : Chk 34 (fun c => c.f4.length) (fun _ _ => True) eResEnds := by
  intro w B V c i h hi _
  obtain ⟨t, ad, ht, e, HA⟩ := res_at h.cf.r i hi
  have q12 := h.cell12
  rw [e] at q12
  have g1 := HA.g1
  have HX := Aside0.mk h
  have HE := Aside0.mk (show eResEnds c i = if (t.f1 != 2 || (decide (0 ≤ rootV c.f4 i) && kindR c.f4 (rootV c.f4 i).toNat == 1)) then 0 else 70 from by unfold eResEnds resEnds kindR; rw [ht])
  clear h ht HA e
  by_cases h1 : t.f1 = 2
  · have b1 : (t.f1 != 2) = false := by simp [h1]
    have HE := Aside0.mk (show eResEnds c i = if (decide (0 ≤ rootV c.f4 i) && kindR c.f4 (rootV c.f4 i).toNat == 1) then 0 else 70 from by rw [HE.out, b1]; rfl)
    clear h1
    go_enter Tryd.func34, Tryd.ntmps34
    go_wp2_with (first | ((with_reducible refine gate_dst (N := 17) rfl ?_); refine load33 HX.out rfl (.tmp 16) rfl rfl ?_))
    have hrc := root_calls V c i w HX.out.cf
    unfold arr at hrc
    refine hrc.mono ?_
    clear hrc
    rintro e w1 ⟨rfl, B1⟩
    have HB := Aside0.mk B1
    have H1 := Aside0.mk (HX.out.below B1)
    have q12 := H1.out.cell12
    have hr := rootI_range c.f4 (c.f4.length + 1) i
    unfold rootV at *
    generalize rootI c.f4 (c.f4.length + 1) i = r at *
    clear B1 g1
    by_cases h2 : 0 ≤ r
    · obtain ⟨p, rfl⟩ : ∃ p : Nat, r = p := ⟨r.toNat, by omega⟩
      have b2 : decide ((0 : Int) ≤ (p : Int)) = true := decide_eq_true h2
      obtain ⟨t2, ad2, ht2, e2, HA2⟩ := res_at H1.out.cf.r p (by omega)
      rw [e2] at q12
      have g1 := HA2.g1
      have hp : p < c.f4.length := by omega
      have HK := Aside0.mk (show eResEnds c i = if t2.f1 == 1 then 0 else 70 from by rw [HE.out, b2, Int.toNat_natCast]; unfold kindR; rw [ht2]; rfl)
      clear HE ht2 HA2 hr H1 HX h2
      go_wp2_with fail
      all_goals
        refine (unless_calls _ _ _).mono ?_
        rintro e w' ⟨rfl, rfl⟩
        go_wp2_with fail
        all_goals
          go_ret
          refine ⟨?_, HB.out⟩
          rw [HK.out]
          refine congrArg (fun z => Ending.returned (Value.int .i64 z)) ?_
          simp [*]
          try omega
    · have b2 : decide (0 ≤ r) = false := decide_eq_false h2
      have HK := Aside0.mk (show eResEnds c i = 70 from by rw [HE.out, b2]; rfl)
      clear HE hr H1 HX h2
      go_wp2_with fail
      all_goals
        refine (unless_calls _ _ _).mono ?_
        rintro e w' ⟨rfl, rfl⟩
        go_wp2_with fail
        go_ret
        exact ⟨by rw [HK.out] <;> rfl, HB.out⟩
  · have b1 : (t.f1 != 2) = true := by simp [h1]
    have HK := Aside0.mk (show eResEnds c i = 0 from by rw [HE.out, b1]; rfl)
    clear HE h1 HX
    go_enter Tryd.func34, Tryd.ntmps34
    go_wp2_with fail
    go_ret
    exact ⟨by rw [HK.out] <;> rfl, Below.refl _ _⟩
def taskVal (t : S49) : Bool := decide (0 ≤ t.f1) && decide (t.f1 ≤ 63) && decide (1 ≤ t.f3) && decide (t.f3 ≤ 255)
def eTaskVal (c : S33) (i : Nat) : Int := if taskVal (c.f3.getD i z49) then 0 else 74
set_option maxRecDepth 1000000 in
set_option maxHeartbeats 4000000 in
theorem taskVal_chk : Chk 41 (fun c => c.f3.length) (fun _ _ => True) eTaskVal := by
  intro w B V c i h hi _
  obtain ⟨t, ad, A4, c4, A5, c5, A6, c6, A7, c7, ht, e, HA, _⟩ := task_at h.cf.t i hi
  have q11 := h.cell11
  rw [e] at q11
  have HAX := Aside0.mk HA
  have HE := Aside0.mk (show eTaskVal c i = if taskVal t then 0 else 74 from by unfold eTaskVal; rw [ht])
  clear h e ht HA
  go_enter Tryd.func41, Tryd.ntmps41
  go_wp2_with (first | ((with_reducible refine gate_dst (N := 12) rfl ?_); refine load49 HAX.out rfl (.tmp 11) rfl rfl ?_))
  all_goals
    refine (unless_calls _ _ _).mono ?_
    rintro e w' ⟨rfl, rfl⟩
    go_wp2_with fail
    all_goals
      go_ret
      refine ⟨?_, below_a _ _⟩
      rw [HE.out]
      clear HE HAX
      refine congrArg (fun z => Ending.returned (Value.int .i64 z)) ?_
      unfold taskVal
      simp [*]
      try omega
def eTaskOver (c : S33) (i : Nat) : Int := if (c.f3.getD i z49).f6.length ≤ 32 then 0 else 71
set_option maxRecDepth 1000000 in
set_option maxHeartbeats 4000000 in
theorem taskOver_chk : Chk 43 (fun c => c.f3.length) (fun _ _ => True) eTaskOver := by
  intro w B V c i h hi _
  obtain ⟨t, ad, A4, c4, A5, c5, A6, c6, A7, c7, ht, e, HA, _⟩ := task_at h.cf.t i hi
  have q11 := h.cell11
  rw [e] at q11
  have g6 := HA.g6
  have HE := Aside0.mk (show eTaskOver c i = if t.f6.length ≤ 32 then 0 else 71 from by unfold eTaskOver; rw [ht])
  clear h e ht HA
  go_enter Tryd.func43, Tryd.ntmps43
  go_wp2_with fail
  all_goals
    refine (unless_calls _ _ _).mono ?_
    rintro e w' ⟨rfl, rfl⟩
    go_wp2_with fail
    all_goals
      go_ret
      refine ⟨?_, Below.refl _ _⟩
      rw [HE.out]
      clear HE
      refine congrArg (fun z => Ending.returned (Value.int .i64 z)) ?_
      simp [*]
      try omega
def tickB (n : Int) : Bool := decide (1 ≤ n) && decide (n ≤ 2147483647)
def ctrVal (t : S62) : Bool := tickB t.f1 && tickB t.f2 && tickB t.f3 && decide (t.f3 ≤ t.f1)
def eCtrVal (c : S33) (i : Nat) : Int := if ctrVal (c.f6.getD i z62) then 0 else 74
set_option maxRecDepth 1000000 in
set_option maxHeartbeats 4000000 in
theorem ctrVal_chk : Chk 47 (fun c => c.f6.length) (fun _ _ => True) eCtrVal := by
  intro w B V c i h hi _
  obtain ⟨t, ad, ht, e, HA⟩ := ctr_at h.cf.x i hi
  have q14 := h.cell14
  rw [e] at q14
  have HAX := Aside0.mk HA
  have HE := Aside0.mk (show eCtrVal c i = if ctrVal t then 0 else 74 from by unfold eCtrVal; rw [ht])
  clear h e ht HA
  have HT1 := Aside0.mk (fun w => tick_calls t.f1 w)
  have HT2 := Aside0.mk (fun w => tick_calls t.f2 w)
  have HT3 := Aside0.mk (fun w => tick_calls t.f3 w)
  change Aside0 (∀ w, Calls Tryd.prog 79 #[.int .u32 t.f1] w fun e w' => e = .returned (.bool (tickB t.f1)) ∧ w' = w) at HT1
  change Aside0 (∀ w, Calls Tryd.prog 79 #[.int .u32 t.f2] w fun e w' => e = .returned (.bool (tickB t.f2)) ∧ w' = w) at HT2
  change Aside0 (∀ w, Calls Tryd.prog 79 #[.int .u32 t.f3] w fun e w' => e = .returned (.bool (tickB t.f3)) ∧ w' = w) at HT3
  unfold ctrVal at HE
  generalize tickB t.f1 = k1 at *
  generalize tickB t.f2 = k2 at *
  generalize tickB t.f3 = k3 at *
  go_enter Tryd.func47, Tryd.ntmps47
  go_wp2_with (first | ((with_reducible refine gate_dst (N := 12) rfl ?_); refine load62 HAX.out rfl (.tmp 11) rfl rfl ?_))
  refine (HT1.out _).mono ?_
  rintro e w' ⟨rfl, rfl⟩
  cases k1
  · go_wp2_with fail
    refine (unless_calls _ _ _).mono ?_
    rintro e w' ⟨rfl, rfl⟩
    go_wp2_with fail
    go_ret
    exact ⟨by rw [HE.out] <;> rfl, below_a _ _⟩
  · go_wp2_with fail
    refine (HT2.out _).mono ?_
    rintro e w' ⟨rfl, rfl⟩
    cases k2
    · go_wp2_with fail
      refine (unless_calls _ _ _).mono ?_
      rintro e w' ⟨rfl, rfl⟩
      go_wp2_with fail
      go_ret
      exact ⟨by rw [HE.out] <;> rfl, below_a _ _⟩
    · go_wp2_with fail
      refine (HT3.out _).mono ?_
      rintro e w' ⟨rfl, rfl⟩
      cases k3
      · go_wp2_with fail
        refine (unless_calls _ _ _).mono ?_
        rintro e w' ⟨rfl, rfl⟩
        go_wp2_with fail
        go_ret
        exact ⟨by rw [HE.out] <;> rfl, below_a _ _⟩
      · go_wp2_with fail
        refine (unless_calls _ _ _).mono ?_
        rintro e w' ⟨rfl, rfl⟩
        go_wp2_with fail
        all_goals
          go_ret
          refine ⟨?_, below_a _ _⟩
          rw [HE.out]
          clear HE HAX HT1 HT2 HT3
          refine congrArg (fun z => Ending.returned (Value.int .i64 z)) ?_
          simp [*]
          try omega
end Go.Proofs.YthckjbmgeidkgaaDoor.XA
