/- actions: package class. -/
import Derived.Test.YthckjbmgeidkgaaDoorHAlm
namespace Go.Proofs.YthckjbmgeidkgaaDoor.XA
set_option linter.unusedVariables false
set_option linter.unusedSimpArgs false
open Go.RowKit Go.WideMaps Go.Maps Go.Proofs.YthckjbmgeidkgaaDoorW.PrintWords Go.Proofs.YthckjbmgeidkgaaDoorW.PrintLast Go.Proofs.YthckjbmgeidkgaaDoorW.PrintMore
/-- what is wrong with an action -/
def actV (c : S33) (k f1 f2 : Int) (f3 : ByteArray) (lo hi : Int) : Int :=
  if k < lo ∨ hi < k ∨ (¬ (k = 1 ∨ k = 2) ∧ f1 ≠ 0) ∨ (k ≠ 2 ∧ f2 ≠ 0) ∨ (¬ (k = 3 ∨ k = 4) ∧ f3.toList.isEmpty = false) then 74
  else if (k = 1 ∨ k = 2) ∧ (f1 < 0 ∨ (c.f3.length : Int) ≤ f1) ∨ k = 2 ∧ (f2 < 0 ∨ (c.f5.length : Int) ≤ f2) then 73
  else if k = 2 ∧ ¬ f2 ∈ (c.f3.getD f1.toNat z49).f6 then 70
  else if (k = 3 ∨ k = 4) ∧ nameB f3 = false then 72 else 0
def eAct (c : S33) (a : S58) (lo hi : Int) : Int := actV c a.f0 a.f1 a.f2 a.f3 lo hi
set_option maxRecDepth 1000000 in
set_option maxHeartbeats 4000000 in
theorem act_calls (w : World) (B : Nat) (V : CV) (c : S33) (h : At w B V c) (k f1 f2 : Int) (f3 : ByteArray) (lo hi : Int) : Calls Tryd.prog 80 #[.pointer (some ⟨B, 0, none⟩), .agg #[.int .i64 k, .int .i64 f1, .int .i64 f2, .string f3], .int .i64 lo, .int .i64 hi] w fun e w' => e = .returned (.int .i64 (actV c k f1 f2 f3 lo hi)) ∧ Below w.heap.size w w' := by
  have HB := Aside0.mk (below_a w (.cells #[.int .i64 k, .int .i64 f1, .int .i64 f2, .string f3] 58))
  have H1 := Aside0.mk (h.below HB.out)
  clear h
  go_enter Tryd.func80, Tryd.ntmps80
  go_wp2_with fail
  have y0 : (w.alloc (.cells #[.int .i64 k, .int .i64 f1, .int .i64 f2, .string f3] 58)).cell? ⟨w.heap.size, 0, none⟩ = some (.int .i64 k) := by simp
  have y1 : (w.alloc (.cells #[.int .i64 k, .int .i64 f1, .int .i64 f2, .string f3] 58)).cell? ⟨w.heap.size, 1, none⟩ = some (.int .i64 f1) := by simp
  have y2 : (w.alloc (.cells #[.int .i64 k, .int .i64 f1, .int .i64 f2, .string f3] 58)).cell? ⟨w.heap.size, 2, none⟩ = some (.int .i64 f2) := by simp
  have y3 : (w.alloc (.cells #[.int .i64 k, .int .i64 f1, .int .i64 f2, .string f3] 58)).cell? ⟨w.heap.size, 3, none⟩ = some (.string f3) := by simp
  have q11 := H1.out.cell11
  have q13 := H1.out.cell13
  generalize w.alloc (.cells #[.int .i64 k, .int .i64 f1, .int .i64 f2, .string f3] 58) = w1 at *
  by_cases k1 : k = 1
  · subst k1
    go_quiet (fail)
    by_cases x1 : 1 < lo
    · have t1 : decide (1 < lo) = true := decide_eq_true x1
      have HE := Aside0.mk (show actV c 1 f1 f2 f3 lo hi = 74 from by unfold actV; simp [*])
      go_wp2_with fail
      go_ret
      exact ⟨by rw [HE.out] <;> rfl, HB.out.trans ⟨rfl, rfl, rfl, Nat.le_refl _, fun _ _ => rfl⟩⟩
    · have t1 : decide (1 < lo) = false := decide_eq_false x1
      by_cases x2 : hi < 1
      · have t2 : decide (hi < 1) = true := decide_eq_true x2
        have HE := Aside0.mk (show actV c 1 f1 f2 f3 lo hi = 74 from by unfold actV; simp [*])
        go_wp2_with fail
        go_ret
        exact ⟨by rw [HE.out] <;> rfl, HB.out.trans ⟨rfl, rfl, rfl, Nat.le_refl _, fun _ _ => rfl⟩⟩
      · have t2 : decide (hi < 1) = false := decide_eq_false x2
        by_cases x3 : f2 ≠ 0
        · have t3 : (f2 != 0) = true := by simp [x3]
          have HE := Aside0.mk (show actV c 1 f1 f2 f3 lo hi = 74 from by unfold actV; simp [*])
          go_wp2_with fail
          go_ret
          exact ⟨by rw [HE.out] <;> rfl, HB.out.trans ⟨rfl, rfl, rfl, Nat.le_refl _, fun _ _ => rfl⟩⟩
        · have t3 : (f2 != 0) = false := by simp at x3; simp [x3]
          by_cases x4 : f3.toList.isEmpty = false
          · skip
            have HE := Aside0.mk (show actV c 1 f1 f2 f3 lo hi = 74 from by unfold actV; simp [*])
            go_wp2_with fail
            go_ret
            exact ⟨by rw [HE.out] <;> rfl, HB.out.trans ⟨rfl, rfl, rfl, Nat.le_refl _, fun _ _ => rfl⟩⟩
          · have t4 : f3.toList.isEmpty = true := by simpa using x4
            by_cases u1 : f1 < 0
            · have v1 : decide (f1 < 0) = true := decide_eq_true u1
              have HE := Aside0.mk (show actV c 1 f1 f2 f3 lo hi = 73 from by unfold actV; simp [*])
              go_wp2_with fail
              go_quiet (fail)
              go_wp2_with fail
              go_ret
              exact ⟨by rw [HE.out] <;> rfl, HB.out.trans ⟨rfl, rfl, rfl, Nat.le_refl _, fun _ _ => rfl⟩⟩
            · have v1 : decide (f1 < 0) = false := decide_eq_false u1
              by_cases u2 : (c.f3.length : Int) ≤ f1
              · have v2 : decide ((c.f3.length : Int) ≤ f1) = true := decide_eq_true u2
                have HE := Aside0.mk (show actV c 1 f1 f2 f3 lo hi = 73 from by unfold actV; simp [*])
                go_wp2_with fail
                go_quiet (fail)
                go_wp2_with fail
                go_ret
                exact ⟨by rw [HE.out] <;> rfl, HB.out.trans ⟨rfl, rfl, rfl, Nat.le_refl _, fun _ _ => rfl⟩⟩
              · have v2 : decide ((c.f3.length : Int) ≤ f1) = false := decide_eq_false u2
                have HE := Aside0.mk (show actV c 1 f1 f2 f3 lo hi = 0 from by unfold actV; simp [*])
                go_wp2_with fail
                go_quiet (fail)
                go_wp2_with fail
                go_quiet (fail)
                go_wp2_with fail
                go_quiet (fail)
                go_wp2_with fail
                go_ret
                exact ⟨by rw [HE.out] <;> rfl, HB.out.trans ⟨rfl, rfl, rfl, Nat.le_refl _, fun _ _ => rfl⟩⟩
  · by_cases k2 : k = 2
    · subst k2
      go_quiet (fail)
      by_cases x1 : 2 < lo
      · have t1 : decide (2 < lo) = true := decide_eq_true x1
        have HE := Aside0.mk (show actV c 2 f1 f2 f3 lo hi = 74 from by unfold actV; simp [*])
        go_wp2_with fail
        go_ret
        exact ⟨by rw [HE.out] <;> rfl, HB.out.trans ⟨rfl, rfl, rfl, Nat.le_refl _, fun _ _ => rfl⟩⟩
      · have t1 : decide (2 < lo) = false := decide_eq_false x1
        by_cases x2 : hi < 2
        · have t2 : decide (hi < 2) = true := decide_eq_true x2
          have HE := Aside0.mk (show actV c 2 f1 f2 f3 lo hi = 74 from by unfold actV; simp [*])
          go_wp2_with fail
          go_ret
          exact ⟨by rw [HE.out] <;> rfl, HB.out.trans ⟨rfl, rfl, rfl, Nat.le_refl _, fun _ _ => rfl⟩⟩
        · have t2 : decide (hi < 2) = false := decide_eq_false x2
          by_cases x3 : f3.toList.isEmpty = false
          · skip
            have HE := Aside0.mk (show actV c 2 f1 f2 f3 lo hi = 74 from by unfold actV; simp [*])
            go_wp2_with fail
            go_ret
            exact ⟨by rw [HE.out] <;> rfl, HB.out.trans ⟨rfl, rfl, rfl, Nat.le_refl _, fun _ _ => rfl⟩⟩
          · have t3 : f3.toList.isEmpty = true := by simpa using x3
            by_cases u1 : f1 < 0
            · have v1 : decide (f1 < 0) = true := decide_eq_true u1
              have HE := Aside0.mk (show actV c 2 f1 f2 f3 lo hi = 73 from by unfold actV; simp [*])
              go_wp2_with fail
              go_quiet (fail)
              go_wp2_with fail
              go_ret
              exact ⟨by rw [HE.out] <;> rfl, HB.out.trans ⟨rfl, rfl, rfl, Nat.le_refl _, fun _ _ => rfl⟩⟩
            · have v1 : decide (f1 < 0) = false := decide_eq_false u1
              by_cases u2 : (c.f3.length : Int) ≤ f1
              · have v2 : decide ((c.f3.length : Int) ≤ f1) = true := decide_eq_true u2
                have HE := Aside0.mk (show actV c 2 f1 f2 f3 lo hi = 73 from by unfold actV; simp [*])
                go_wp2_with fail
                go_quiet (fail)
                go_wp2_with fail
                go_ret
                exact ⟨by rw [HE.out] <;> rfl, HB.out.trans ⟨rfl, rfl, rfl, Nat.le_refl _, fun _ _ => rfl⟩⟩
              · have v2 : decide ((c.f3.length : Int) ≤ f1) = false := decide_eq_false u2
                by_cases u3 : f2 < 0
                · have v3 : decide (f2 < 0) = true := decide_eq_true u3
                  have HE := Aside0.mk (show actV c 2 f1 f2 f3 lo hi = 73 from by unfold actV; simp [*])
                  go_wp2_with fail
                  go_quiet (fail)
                  go_wp2_with fail
                  go_quiet (fail)
                  go_wp2_with fail
                  go_ret
                  exact ⟨by rw [HE.out] <;> rfl, HB.out.trans ⟨rfl, rfl, rfl, Nat.le_refl _, fun _ _ => rfl⟩⟩
                · have v3 : decide (f2 < 0) = false := decide_eq_false u3
                  by_cases u4 : (c.f5.length : Int) ≤ f2
                  · have v4 : decide ((c.f5.length : Int) ≤ f2) = true := decide_eq_true u4
                    have HE := Aside0.mk (show actV c 2 f1 f2 f3 lo hi = 73 from by unfold actV; simp [*])
                    go_wp2_with fail
                    go_quiet (fail)
                    go_wp2_with fail
                    go_quiet (fail)
                    go_wp2_with fail
                    go_ret
                    exact ⟨by rw [HE.out] <;> rfl, HB.out.trans ⟨rfl, rfl, rfl, Nat.le_refl _, fun _ _ => rfl⟩⟩
                  · have v4 : decide ((c.f5.length : Int) ≤ f2) = false := decide_eq_false u4
                    obtain ⟨p, rfl⟩ : ∃ p : Nat, f1 = p := ⟨f1.toNat, by omega⟩
                    have hpl : p < c.f3.length := by omega
                    obtain ⟨t, ad, A4, c4, A5, c5, A6, c6, A7, c7, ht, e, HA, _, _, _, _, l6, g6, _⟩ := task_at H1.out.cf.t p hpl
                    have g := HA.g6
                    rw [e] at q11
                    have HC := Aside0.mk (fun n => contains_calls A6 c6 t.f6 f2 (w1.drewN n) (Kd.C_below g6 (drewN_below w1 n)) l6)
                    have HV := Aside0.mk (show actV c 2 p f2 f3 lo hi = if f2 ∈ t.f6 then 0 else 70 from by unfold actV; rw [Int.toNat_natCast, ht]; simp [*])
                    clear ht HA g6 e H1
                    by_cases m : f2 ∈ t.f6
                    · have HE := Aside0.mk (show actV c 2 p f2 f3 lo hi = 0 from by rw [HV.out, if_pos m])
                      have hm : decide (f2 ∈ t.f6) = true := decide_eq_true m
                      rw [hm] at HC
                      clear hm m HV
                      go_wp2_with fail
                      go_quiet (fail)
                      go_wp2_with fail
                      go_quiet (fail)
                      go_wp2_with fail
                      go_quiet (first | (go_at_call 81; exact (HC.out _).mono (fun e w2 h => ⟨h.1, _, h.2⟩)))
                      go_wp2_with fail
                      go_ret
                      exact ⟨by rw [HE.out] <;> rfl, HB.out.trans ⟨rfl, rfl, rfl, Nat.le_refl _, fun _ _ => rfl⟩⟩
                    · have HE := Aside0.mk (show actV c 2 p f2 f3 lo hi = 70 from by rw [HV.out, if_neg m])
                      have hm : decide (f2 ∈ t.f6) = false := decide_eq_false m
                      rw [hm] at HC
                      clear hm m HV
                      go_wp2_with fail
                      go_quiet (fail)
                      go_wp2_with fail
                      go_quiet (fail)
                      go_wp2_with fail
                      go_quiet (first | (go_at_call 81; exact (HC.out _).mono (fun e w2 h => ⟨h.1, _, h.2⟩)))
                      go_wp2_with fail
                      go_ret
                      exact ⟨by rw [HE.out] <;> rfl, HB.out.trans ⟨rfl, rfl, rfl, Nat.le_refl _, fun _ _ => rfl⟩⟩
    · by_cases k3 : k = 3
      · subst k3
        go_quiet (fail)
        by_cases x1 : 3 < lo
        · have t1 : decide (3 < lo) = true := decide_eq_true x1
          have HE := Aside0.mk (show actV c 3 f1 f2 f3 lo hi = 74 from by unfold actV; simp [*])
          go_wp2_with fail
          go_ret
          exact ⟨by rw [HE.out] <;> rfl, HB.out.trans ⟨rfl, rfl, rfl, Nat.le_refl _, fun _ _ => rfl⟩⟩
        · have t1 : decide (3 < lo) = false := decide_eq_false x1
          by_cases x2 : hi < 3
          · have t2 : decide (hi < 3) = true := decide_eq_true x2
            have HE := Aside0.mk (show actV c 3 f1 f2 f3 lo hi = 74 from by unfold actV; simp [*])
            go_wp2_with fail
            go_ret
            exact ⟨by rw [HE.out] <;> rfl, HB.out.trans ⟨rfl, rfl, rfl, Nat.le_refl _, fun _ _ => rfl⟩⟩
          · have t2 : decide (hi < 3) = false := decide_eq_false x2
            by_cases x3 : f1 ≠ 0
            · have t3 : (f1 != 0) = true := by simp [x3]
              have HE := Aside0.mk (show actV c 3 f1 f2 f3 lo hi = 74 from by unfold actV; simp [*])
              go_wp2_with fail
              go_ret
              exact ⟨by rw [HE.out] <;> rfl, HB.out.trans ⟨rfl, rfl, rfl, Nat.le_refl _, fun _ _ => rfl⟩⟩
            · have t3 : (f1 != 0) = false := by simp at x3; simp [x3]
              by_cases x4 : f2 ≠ 0
              · have t4 : (f2 != 0) = true := by simp [x4]
                have HE := Aside0.mk (show actV c 3 f1 f2 f3 lo hi = 74 from by unfold actV; simp [*])
                go_wp2_with fail
                go_ret
                exact ⟨by rw [HE.out] <;> rfl, HB.out.trans ⟨rfl, rfl, rfl, Nat.le_refl _, fun _ _ => rfl⟩⟩
              · have t4 : (f2 != 0) = false := by simp at x4; simp [x4]
                have HV := Aside0.mk (show actV c 3 f1 f2 f3 lo hi = if nameB f3 = false then 72 else 0 from by unfold actV; simp [*])
                go_wp2_with fail
                go_quiet (fail)
                go_wp2_with fail
                go_quiet (fail)
                go_wp2_with fail
                go_quiet (fail)
                go_wp2_with fail
                refine (isName_calls f3 _).mono ?_
                rintro e w2 ⟨rfl, B2⟩
                have HB2 := Aside0.mk (show Below w.heap.size w w2 from HB.out.trans (((drewN_below w1 _).trans B2).mono HB.out.size))
                clear B2
                rcases hn : nameB f3 with _ | _
                · have HE := Aside0.mk (show actV c 3 f1 f2 f3 lo hi = 72 from by rw [HV.out, hn]; rfl)
                  go_wp2_with fail
                  go_ret
                  exact ⟨by rw [HE.out] <;> rfl, HB2.out⟩
                · have HE := Aside0.mk (show actV c 3 f1 f2 f3 lo hi = 0 from by rw [HV.out, hn]; rfl)
                  go_wp2_with fail
                  go_ret
                  exact ⟨by rw [HE.out] <;> rfl, HB2.out⟩
      · by_cases k4 : k = 4
        · subst k4
          go_quiet (fail)
          by_cases x1 : 4 < lo
          · have t1 : decide (4 < lo) = true := decide_eq_true x1
            have HE := Aside0.mk (show actV c 4 f1 f2 f3 lo hi = 74 from by unfold actV; simp [*])
            go_wp2_with fail
            go_ret
            exact ⟨by rw [HE.out] <;> rfl, HB.out.trans ⟨rfl, rfl, rfl, Nat.le_refl _, fun _ _ => rfl⟩⟩
          · have t1 : decide (4 < lo) = false := decide_eq_false x1
            by_cases x2 : hi < 4
            · have t2 : decide (hi < 4) = true := decide_eq_true x2
              have HE := Aside0.mk (show actV c 4 f1 f2 f3 lo hi = 74 from by unfold actV; simp [*])
              go_wp2_with fail
              go_ret
              exact ⟨by rw [HE.out] <;> rfl, HB.out.trans ⟨rfl, rfl, rfl, Nat.le_refl _, fun _ _ => rfl⟩⟩
            · have t2 : decide (hi < 4) = false := decide_eq_false x2
              by_cases x3 : f1 ≠ 0
              · have t3 : (f1 != 0) = true := by simp [x3]
                have HE := Aside0.mk (show actV c 4 f1 f2 f3 lo hi = 74 from by unfold actV; simp [*])
                go_wp2_with fail
                go_ret
                exact ⟨by rw [HE.out] <;> rfl, HB.out.trans ⟨rfl, rfl, rfl, Nat.le_refl _, fun _ _ => rfl⟩⟩
              · have t3 : (f1 != 0) = false := by simp at x3; simp [x3]
                by_cases x4 : f2 ≠ 0
                · have t4 : (f2 != 0) = true := by simp [x4]
                  have HE := Aside0.mk (show actV c 4 f1 f2 f3 lo hi = 74 from by unfold actV; simp [*])
                  go_wp2_with fail
                  go_ret
                  exact ⟨by rw [HE.out] <;> rfl, HB.out.trans ⟨rfl, rfl, rfl, Nat.le_refl _, fun _ _ => rfl⟩⟩
                · have t4 : (f2 != 0) = false := by simp at x4; simp [x4]
                  have HV := Aside0.mk (show actV c 4 f1 f2 f3 lo hi = if nameB f3 = false then 72 else 0 from by unfold actV; simp [*])
                  go_wp2_with fail
                  go_quiet (fail)
                  go_wp2_with fail
                  go_quiet (fail)
                  go_wp2_with fail
                  go_quiet (fail)
                  go_wp2_with fail
                  refine (isName_calls f3 _).mono ?_
                  rintro e w2 ⟨rfl, B2⟩
                  have HB2 := Aside0.mk (show Below w.heap.size w w2 from HB.out.trans (((drewN_below w1 _).trans B2).mono HB.out.size))
                  clear B2
                  rcases hn : nameB f3 with _ | _
                  · have HE := Aside0.mk (show actV c 4 f1 f2 f3 lo hi = 72 from by rw [HV.out, hn]; rfl)
                    go_wp2_with fail
                    go_ret
                    exact ⟨by rw [HE.out] <;> rfl, HB2.out⟩
                  · have HE := Aside0.mk (show actV c 4 f1 f2 f3 lo hi = 0 from by rw [HV.out, hn]; rfl)
                    go_wp2_with fail
                    go_ret
                    exact ⟨by rw [HE.out] <;> rfl, HB2.out⟩
        · have b1 : (k == 1) = false := by simp [k1]
          have b2 : (k == 2) = false := by simp [k2]
          have b3 : (k == 3) = false := by simp [k3]
          have b4 : (k == 4) = false := by simp [k4]
          go_quiet (fail)
          by_cases x1 : k < lo
          · have t1 : decide (k < lo) = true := decide_eq_true x1
            have HE := Aside0.mk (show actV c k f1 f2 f3 lo hi = 74 from by unfold actV; simp [*])
            go_wp2_with fail
            go_ret
            exact ⟨by rw [HE.out] <;> rfl, HB.out.trans ⟨rfl, rfl, rfl, Nat.le_refl _, fun _ _ => rfl⟩⟩
          · have t1 : decide (k < lo) = false := decide_eq_false x1
            by_cases x2 : hi < k
            · have t2 : decide (hi < k) = true := decide_eq_true x2
              have HE := Aside0.mk (show actV c k f1 f2 f3 lo hi = 74 from by unfold actV; simp [*])
              go_wp2_with fail
              go_ret
              exact ⟨by rw [HE.out] <;> rfl, HB.out.trans ⟨rfl, rfl, rfl, Nat.le_refl _, fun _ _ => rfl⟩⟩
            · have t2 : decide (hi < k) = false := decide_eq_false x2
              by_cases x3 : f1 ≠ 0
              · have t3 : (f1 != 0) = true := by simp [x3]
                have HE := Aside0.mk (show actV c k f1 f2 f3 lo hi = 74 from by unfold actV; simp [*])
                go_wp2_with fail
                go_ret
                exact ⟨by rw [HE.out] <;> rfl, HB.out.trans ⟨rfl, rfl, rfl, Nat.le_refl _, fun _ _ => rfl⟩⟩
              · have t3 : (f1 != 0) = false := by simp at x3; simp [x3]
                by_cases x4 : f2 ≠ 0
                · have t4 : (f2 != 0) = true := by simp [x4]
                  have HE := Aside0.mk (show actV c k f1 f2 f3 lo hi = 74 from by unfold actV; simp [*])
                  go_wp2_with fail
                  go_ret
                  exact ⟨by rw [HE.out] <;> rfl, HB.out.trans ⟨rfl, rfl, rfl, Nat.le_refl _, fun _ _ => rfl⟩⟩
                · have t4 : (f2 != 0) = false := by simp at x4; simp [x4]
                  by_cases x5 : f3.toList.isEmpty = false
                  · skip
                    have HE := Aside0.mk (show actV c k f1 f2 f3 lo hi = 74 from by unfold actV; simp [*])
                    go_wp2_with fail
                    go_ret
                    exact ⟨by rw [HE.out] <;> rfl, HB.out.trans ⟨rfl, rfl, rfl, Nat.le_refl _, fun _ _ => rfl⟩⟩
                  · have t5 : f3.toList.isEmpty = true := by simpa using x5
                    have HE := Aside0.mk (show actV c k f1 f2 f3 lo hi = 0 from by unfold actV; simp [*])
                    go_wp2_with fail
                    go_quiet (fail)
                    go_wp2_with fail
                    go_quiet (fail)
                    go_wp2_with fail
                    go_quiet (fail)
                    go_wp2_with fail
                    go_ret
                    exact ⟨by rw [HE.out] <;> rfl, HB.out.trans ⟨rfl, rfl, rfl, Nat.le_refl _, fun _ _ => rfl⟩⟩
def eAlmAct (c : S33) (i : Nat) : Int := eAct c (c.f7.getD i z60).f2 1 3
set_option maxRecDepth 1000000 in
set_option maxHeartbeats 4000000 in
theorem almAct_chk : Chk 51 (fun c => c.f7.length) (fun _ _ => True) eAlmAct := by
  intro w B V c i h hi _
  obtain ⟨t, ad, A6, c6, ht, e, HA, _⟩ := alm_at h.cf.a i hi
  have q15 := h.cell15
  rw [e] at q15
  have g2 := HA.g2
  have g3 := HA.g3
  have g4 := HA.g4
  have g5 := HA.g5
  have HE := Aside0.mk (show eAlmAct c i = actV c t.f2.f0 t.f2.f1 t.f2.f2 t.f2.f3 1 3 from by unfold eAlmAct eAct; rw [ht])
  have HX := Aside0.mk h
  clear h e ht HA
  go_enter Tryd.func51, Tryd.ntmps51
  go_wp2_with fail
  refine (act_calls w B V c HX.out t.f2.f0 t.f2.f1 t.f2.f2 t.f2.f3 1 3).mono ?_
  rintro e w' ⟨rfl, B1⟩
  have HB := Aside0.mk B1
  clear B1
  go_wp2_with fail
  go_ret
  exact ⟨by rw [HE.out] <;> rfl, HB.out⟩
end Go.Proofs.YthckjbmgeidkgaaDoor.XA
