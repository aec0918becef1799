-- WRITTEN BY wip/tools/xprint.py: a program of this session's over the kit's printer, with texts of this session's own among them
import Derived.Test.YtkkkcpijbkjhdaaXAx0
namespace Go.Proofs.Ytkkkcpijbkjhdaa.XA
open Go.RowKit Go.Proofs.YtkkkcpijbkjhdaaW.PrintWords Go.Proofs.YtkkkcpijbkjhdaaW.PrintLast Go.Proofs.YtkkkcpijbkjhdaaW.PrintMore
attribute [local go_sem] max2_int min2_int max_two min_two max_three min_three max_four min_four   -- for this text's walks alone
set_option linter.unusedVariables false
set_option linter.unusedSimpArgs false

/-! ### level_Status: function 10 -/
def level_Status.f (a0 : Int) : Option (ByteArray) := some (statusP a0)
theorem level_Status.calls (a0 : Int) (r : ByteArray) (w : World) (h : level_Status.f a0 = some r) :
    Calls Try.prog 10 #[.int .i64 a0] w fun e w' => e = .returned (.string r) ∧ Below w.heap.size w w' := by
  obtain rfl := Option.some.inj h
  exact status_calls a0 w

-- NOT PRINTED: function 27 (level_byStatus)

/-! ### level_StatusOf: function 6 -/
def level_StatusOf.f (a0 : ByteArray) : Option (Int × Bool) := if a0.size ≤ 140737488351232 then some (statusOfP a0) else none
theorem level_StatusOf.calls (a0 : ByteArray) (r1 : Int) (r2 : Bool) (w : World) (h : level_StatusOf.f a0 = some (r1, r2)) :
    Calls Try.prog 6 #[.string a0] w fun e w' => e = .returned (.tuple #[.int .i64 r1, .bool r2]) ∧ Below w.heap.size w w' := by
  unfold level_StatusOf.f at h
  by_cases hs : a0.size ≤ 140737488351232
  · rw [if_pos hs] at h
    have h := Option.some.inj h
    have := statusOf_calls a0 w (by unfold maxLen; omega)
    rw [h] at this
    exact this
  · rw [if_neg hs] at h; cases h

/-! ### tappetref17_Status: function 11 -/
def tappetref17_Status.f (a0 : Int) : Option (ByteArray) := if a0 = 0 then (some (⟨#[69, 95, 79, 75]⟩ : ByteArray)) else (if a0 = 1 then (some (⟨#[69, 95, 79, 83, 95, 65, 67, 67, 69, 83, 83]⟩ : ByteArray)) else (if a0 = 2 then (some (⟨#[69, 95, 79, 83, 95, 67, 65, 76, 76, 69, 86, 69, 76]⟩ : ByteArray)) else (if a0 = 3 then (some (⟨#[69, 95, 79, 83, 95, 73, 68]⟩ : ByteArray)) else (if a0 = 4 then (some (⟨#[69, 95, 79, 83, 95, 76, 73, 77, 73, 84]⟩ : ByteArray)) else (if a0 = 5 then (some (⟨#[69, 95, 79, 83, 95, 78, 79, 70, 85, 78, 67]⟩ : ByteArray)) else (if a0 = 6 then (some (⟨#[69, 95, 79, 83, 95, 82, 69, 83, 79, 85, 82, 67, 69]⟩ : ByteArray)) else (if a0 = 7 then (some (⟨#[69, 95, 79, 83, 95, 83, 84, 65, 84, 69]⟩ : ByteArray)) else (if a0 = 8 then (some (⟨#[69, 95, 79, 83, 95, 86, 65, 76, 85, 69]⟩ : ByteArray)) else (if a0 = 9 then (some (⟨#[69, 95, 79, 83, 95, 77, 73, 83, 83, 73, 78, 71, 69, 78, 68]⟩ : ByteArray)) else (if a0 = 10 then (some (⟨#[69, 95, 79, 83, 95, 68, 73, 83, 65, 66, 76, 69, 68, 73, 78, 84]⟩ : ByteArray)) else (if a0 = 33 then (some (⟨#[69, 95, 67, 79, 77, 95, 73, 68]⟩ : ByteArray)) else (if a0 = 34 then (some (⟨#[69, 95, 67, 79, 77, 95, 76, 69, 78, 71, 84, 72]⟩ : ByteArray)) else (if a0 = 35 then (some (⟨#[69, 95, 67, 79, 77, 95, 76, 73, 77, 73, 84]⟩ : ByteArray)) else (if a0 = 36 then (some (⟨#[69, 95, 67, 79, 77, 95, 78, 79, 77, 83, 71]⟩ : ByteArray)) else (some (⟨#[]⟩ : ByteArray))))))))))))))))
set_option maxHeartbeats 8000000 in
set_option maxRecDepth 100000 in
theorem tappetref17_Status.calls (a0 : Int) (r : ByteArray) (w : World) (h : tappetref17_Status.f a0 = some r) :
    Calls Try.prog 11 #[.int .i64 a0] w fun e w' => e = .returned (.string r) ∧ Drawn0 w w' := by
  have H : (if a0 = 0 then (some (⟨#[69, 95, 79, 75]⟩ : ByteArray)) else (if a0 = 1 then (some (⟨#[69, 95, 79, 83, 95, 65, 67, 67, 69, 83, 83]⟩ : ByteArray)) else (if a0 = 2 then (some (⟨#[69, 95, 79, 83, 95, 67, 65, 76, 76, 69, 86, 69, 76]⟩ : ByteArray)) else (if a0 = 3 then (some (⟨#[69, 95, 79, 83, 95, 73, 68]⟩ : ByteArray)) else (if a0 = 4 then (some (⟨#[69, 95, 79, 83, 95, 76, 73, 77, 73, 84]⟩ : ByteArray)) else (if a0 = 5 then (some (⟨#[69, 95, 79, 83, 95, 78, 79, 70, 85, 78, 67]⟩ : ByteArray)) else (if a0 = 6 then (some (⟨#[69, 95, 79, 83, 95, 82, 69, 83, 79, 85, 82, 67, 69]⟩ : ByteArray)) else (if a0 = 7 then (some (⟨#[69, 95, 79, 83, 95, 83, 84, 65, 84, 69]⟩ : ByteArray)) else (if a0 = 8 then (some (⟨#[69, 95, 79, 83, 95, 86, 65, 76, 85, 69]⟩ : ByteArray)) else (if a0 = 9 then (some (⟨#[69, 95, 79, 83, 95, 77, 73, 83, 83, 73, 78, 71, 69, 78, 68]⟩ : ByteArray)) else (if a0 = 10 then (some (⟨#[69, 95, 79, 83, 95, 68, 73, 83, 65, 66, 76, 69, 68, 73, 78, 84]⟩ : ByteArray)) else (if a0 = 33 then (some (⟨#[69, 95, 67, 79, 77, 95, 73, 68]⟩ : ByteArray)) else (if a0 = 34 then (some (⟨#[69, 95, 67, 79, 77, 95, 76, 69, 78, 71, 84, 72]⟩ : ByteArray)) else (if a0 = 35 then (some (⟨#[69, 95, 67, 79, 77, 95, 76, 73, 77, 73, 84]⟩ : ByteArray)) else (if a0 = 36 then (some (⟨#[69, 95, 67, 79, 77, 95, 78, 79, 77, 83, 71]⟩ : ByteArray)) else (some (⟨#[]⟩ : ByteArray))))))))))))))))) = some r := h
  clear h
  by_cases c2 : a0 = 0
  · rw [if_pos c2] at H
    have c2b0 : (a0 == 0) = true := beq_iff_eq.mpr c2
    have c2b1 : (a0 != 0) = false := bne_eq_false_iff_eq.mpr c2
    clear c2
    obtain rfl := Option.some.inj H
    go_enter Try.func11, Try.ntmps11
    go_wp2
    go_ret
    exact ⟨by first | rfl | (simp; done) | (simp [*]; done), by repeat (first | exact Drawn0.refl _ | apply Drawn0.step)⟩
  · rw [if_neg c2] at H
    have c2b0 : (a0 == 0) = false := beq_eq_false_iff_ne.mpr c2
    have c2b1 : (a0 != 0) = true := bne_iff_ne.mpr c2
    by_cases c3 : a0 = 1
    · rw [if_pos c3] at H
      have c3b0 : (a0 == 1) = true := beq_iff_eq.mpr c3
      have c3b1 : (a0 != 1) = false := bne_eq_false_iff_eq.mpr c3
      clear c3
      obtain rfl := Option.some.inj H
      go_enter Try.func11, Try.ntmps11
      go_wp2
      go_ret
      exact ⟨by first | rfl | (simp; done) | (simp [*]; done), by repeat (first | exact Drawn0.refl _ | apply Drawn0.step)⟩
    · rw [if_neg c3] at H
      have c3b0 : (a0 == 1) = false := beq_eq_false_iff_ne.mpr c3
      have c3b1 : (a0 != 1) = true := bne_iff_ne.mpr c3
      by_cases c4 : a0 = 2
      · rw [if_pos c4] at H
        have c4b0 : (a0 == 2) = true := beq_iff_eq.mpr c4
        have c4b1 : (a0 != 2) = false := bne_eq_false_iff_eq.mpr c4
        clear c4
        obtain rfl := Option.some.inj H
        go_enter Try.func11, Try.ntmps11
        go_wp2
        go_ret
        exact ⟨by first | rfl | (simp; done) | (simp [*]; done), by repeat (first | exact Drawn0.refl _ | apply Drawn0.step)⟩
      · rw [if_neg c4] at H
        have c4b0 : (a0 == 2) = false := beq_eq_false_iff_ne.mpr c4
        have c4b1 : (a0 != 2) = true := bne_iff_ne.mpr c4
        by_cases c5 : a0 = 3
        · rw [if_pos c5] at H
          have c5b0 : (a0 == 3) = true := beq_iff_eq.mpr c5
          have c5b1 : (a0 != 3) = false := bne_eq_false_iff_eq.mpr c5
          clear c5
          obtain rfl := Option.some.inj H
          go_enter Try.func11, Try.ntmps11
          go_wp2
          go_ret
          exact ⟨by first | rfl | (simp; done) | (simp [*]; done), by repeat (first | exact Drawn0.refl _ | apply Drawn0.step)⟩
        · rw [if_neg c5] at H
          have c5b0 : (a0 == 3) = false := beq_eq_false_iff_ne.mpr c5
          have c5b1 : (a0 != 3) = true := bne_iff_ne.mpr c5
          by_cases c6 : a0 = 4
          · rw [if_pos c6] at H
            have c6b0 : (a0 == 4) = true := beq_iff_eq.mpr c6
            have c6b1 : (a0 != 4) = false := bne_eq_false_iff_eq.mpr c6
            clear c6
            obtain rfl := Option.some.inj H
            go_enter Try.func11, Try.ntmps11
            go_wp2
            go_ret
            exact ⟨by first | rfl | (simp; done) | (simp [*]; done), by repeat (first | exact Drawn0.refl _ | apply Drawn0.step)⟩
          · rw [if_neg c6] at H
            have c6b0 : (a0 == 4) = false := beq_eq_false_iff_ne.mpr c6
            have c6b1 : (a0 != 4) = true := bne_iff_ne.mpr c6
            by_cases c7 : a0 = 5
            · rw [if_pos c7] at H
              have c7b0 : (a0 == 5) = true := beq_iff_eq.mpr c7
              have c7b1 : (a0 != 5) = false := bne_eq_false_iff_eq.mpr c7
              clear c7
              obtain rfl := Option.some.inj H
              go_enter Try.func11, Try.ntmps11
              go_wp2
              go_ret
              exact ⟨by first | rfl | (simp; done) | (simp [*]; done), by repeat (first | exact Drawn0.refl _ | apply Drawn0.step)⟩
            · rw [if_neg c7] at H
              have c7b0 : (a0 == 5) = false := beq_eq_false_iff_ne.mpr c7
              have c7b1 : (a0 != 5) = true := bne_iff_ne.mpr c7
              by_cases c8 : a0 = 6
              · rw [if_pos c8] at H
                have c8b0 : (a0 == 6) = true := beq_iff_eq.mpr c8
                have c8b1 : (a0 != 6) = false := bne_eq_false_iff_eq.mpr c8
                clear c8
                obtain rfl := Option.some.inj H
                go_enter Try.func11, Try.ntmps11
                go_wp2
                go_ret
                exact ⟨by first | rfl | (simp; done) | (simp [*]; done), by repeat (first | exact Drawn0.refl _ | apply Drawn0.step)⟩
              · rw [if_neg c8] at H
                have c8b0 : (a0 == 6) = false := beq_eq_false_iff_ne.mpr c8
                have c8b1 : (a0 != 6) = true := bne_iff_ne.mpr c8
                by_cases c9 : a0 = 7
                · rw [if_pos c9] at H
                  have c9b0 : (a0 == 7) = true := beq_iff_eq.mpr c9
                  have c9b1 : (a0 != 7) = false := bne_eq_false_iff_eq.mpr c9
                  clear c9
                  obtain rfl := Option.some.inj H
                  go_enter Try.func11, Try.ntmps11
                  go_wp2
                  go_ret
                  exact ⟨by first | rfl | (simp; done) | (simp [*]; done), by repeat (first | exact Drawn0.refl _ | apply Drawn0.step)⟩
                · rw [if_neg c9] at H
                  have c9b0 : (a0 == 7) = false := beq_eq_false_iff_ne.mpr c9
                  have c9b1 : (a0 != 7) = true := bne_iff_ne.mpr c9
                  by_cases c10 : a0 = 8
                  · rw [if_pos c10] at H
                    have c10b0 : (a0 == 8) = true := beq_iff_eq.mpr c10
                    have c10b1 : (a0 != 8) = false := bne_eq_false_iff_eq.mpr c10
                    clear c10
                    obtain rfl := Option.some.inj H
                    go_enter Try.func11, Try.ntmps11
                    go_wp2
                    go_ret
                    exact ⟨by first | rfl | (simp; done) | (simp [*]; done), by repeat (first | exact Drawn0.refl _ | apply Drawn0.step)⟩
                  · rw [if_neg c10] at H
                    have c10b0 : (a0 == 8) = false := beq_eq_false_iff_ne.mpr c10
                    have c10b1 : (a0 != 8) = true := bne_iff_ne.mpr c10
                    by_cases c11 : a0 = 9
                    · rw [if_pos c11] at H
                      have c11b0 : (a0 == 9) = true := beq_iff_eq.mpr c11
                      have c11b1 : (a0 != 9) = false := bne_eq_false_iff_eq.mpr c11
                      clear c11
                      obtain rfl := Option.some.inj H
                      go_enter Try.func11, Try.ntmps11
                      go_wp2
                      go_ret
                      exact ⟨by first | rfl | (simp; done) | (simp [*]; done), by repeat (first | exact Drawn0.refl _ | apply Drawn0.step)⟩
                    · rw [if_neg c11] at H
                      have c11b0 : (a0 == 9) = false := beq_eq_false_iff_ne.mpr c11
                      have c11b1 : (a0 != 9) = true := bne_iff_ne.mpr c11
                      by_cases c12 : a0 = 10
                      · rw [if_pos c12] at H
                        have c12b0 : (a0 == 10) = true := beq_iff_eq.mpr c12
                        have c12b1 : (a0 != 10) = false := bne_eq_false_iff_eq.mpr c12
                        clear c12
                        obtain rfl := Option.some.inj H
                        go_enter Try.func11, Try.ntmps11
                        go_wp2
                        go_ret
                        exact ⟨by first | rfl | (simp; done) | (simp [*]; done), by repeat (first | exact Drawn0.refl _ | apply Drawn0.step)⟩
                      · rw [if_neg c12] at H
                        have c12b0 : (a0 == 10) = false := beq_eq_false_iff_ne.mpr c12
                        have c12b1 : (a0 != 10) = true := bne_iff_ne.mpr c12
                        by_cases c13 : a0 = 33
                        · rw [if_pos c13] at H
                          have c13b0 : (a0 == 33) = true := beq_iff_eq.mpr c13
                          have c13b1 : (a0 != 33) = false := bne_eq_false_iff_eq.mpr c13
                          clear c13
                          obtain rfl := Option.some.inj H
                          go_enter Try.func11, Try.ntmps11
                          go_wp2
                          go_ret
                          exact ⟨by first | rfl | (simp; done) | (simp [*]; done), by repeat (first | exact Drawn0.refl _ | apply Drawn0.step)⟩
                        · rw [if_neg c13] at H
                          have c13b0 : (a0 == 33) = false := beq_eq_false_iff_ne.mpr c13
                          have c13b1 : (a0 != 33) = true := bne_iff_ne.mpr c13
                          by_cases c14 : a0 = 34
                          · rw [if_pos c14] at H
                            have c14b0 : (a0 == 34) = true := beq_iff_eq.mpr c14
                            have c14b1 : (a0 != 34) = false := bne_eq_false_iff_eq.mpr c14
                            clear c14
                            obtain rfl := Option.some.inj H
                            go_enter Try.func11, Try.ntmps11
                            go_wp2
                            go_ret
                            exact ⟨by first | rfl | (simp; done) | (simp [*]; done), by repeat (first | exact Drawn0.refl _ | apply Drawn0.step)⟩
                          · rw [if_neg c14] at H
                            have c14b0 : (a0 == 34) = false := beq_eq_false_iff_ne.mpr c14
                            have c14b1 : (a0 != 34) = true := bne_iff_ne.mpr c14
                            by_cases c15 : a0 = 35
                            · rw [if_pos c15] at H
                              have c15b0 : (a0 == 35) = true := beq_iff_eq.mpr c15
                              have c15b1 : (a0 != 35) = false := bne_eq_false_iff_eq.mpr c15
                              clear c15
                              obtain rfl := Option.some.inj H
                              go_enter Try.func11, Try.ntmps11
                              go_wp2
                              go_ret
                              exact ⟨by first | rfl | (simp; done) | (simp [*]; done), by repeat (first | exact Drawn0.refl _ | apply Drawn0.step)⟩
                            · rw [if_neg c15] at H
                              have c15b0 : (a0 == 35) = false := beq_eq_false_iff_ne.mpr c15
                              have c15b1 : (a0 != 35) = true := bne_iff_ne.mpr c15
                              by_cases c16 : a0 = 36
                              · rw [if_pos c16] at H
                                have c16b0 : (a0 == 36) = true := beq_iff_eq.mpr c16
                                have c16b1 : (a0 != 36) = false := bne_eq_false_iff_eq.mpr c16
                                clear c16
                                obtain rfl := Option.some.inj H
                                go_enter Try.func11, Try.ntmps11
                                go_wp2
                                go_ret
                                exact ⟨by first | rfl | (simp; done) | (simp [*]; done), by repeat (first | exact Drawn0.refl _ | apply Drawn0.step)⟩
                              · rw [if_neg c16] at H
                                have c16b0 : (a0 == 36) = false := beq_eq_false_iff_ne.mpr c16
                                have c16b1 : (a0 != 36) = true := bne_iff_ne.mpr c16
                                obtain rfl := Option.some.inj H
                                go_enter Try.func11, Try.ntmps11
                                go_wp2
                                go_ret
                                exact ⟨by first | rfl | (simp; done) | (simp [*]; done), by repeat (first | exact Drawn0.refl _ | apply Drawn0.step)⟩

/-! ### tappetref17_StatusOf: function 7 -/
def tappetref17_StatusOf.l0 : Nat → ByteArray → Int → Option (Int × Bool)
  | 0, _, _ => none
  | k + 1, x0, x4 => if x4 < 40 then ((tappetref17_Status.f x4).bind fun t101 => (if t101.toList = ([] : List UInt8) then (tappetref17_StatusOf.l0 k x0 (wrap64 (x4 + 1))) else (if t101.toList = x0.toList then (some (x4, true)) else (tappetref17_StatusOf.l0 k x0 (wrap64 (x4 + 1)))))) else (some (0, false))
def tappetref17_StatusOf.f (k : Nat) (a0 : ByteArray) : Option (Int × Bool) := tappetref17_StatusOf.l0 k a0 0
theorem tappetref17_StatusOf.mono_l : ∀ k, (∀ y0 y1, LeO (tappetref17_StatusOf.l0 k y0 y1) (tappetref17_StatusOf.l0 (k + 1) y0 y1))
  | 0 => fun _ _ r h => by simp [tappetref17_StatusOf.l0] at h
  | k + 1 => by
    have ih0 := tappetref17_StatusOf.mono_l k
    · intro y0 y1
      unfold tappetref17_StatusOf.l0
      repeat' first
      | (with_reducible exact ih0 _ _)
      | (with_reducible exact LeO.refl _)
      | (with_reducible exact LeO.none _)
      | (with_reducible refine LeO.ite ?_ ?_)
      | (with_reducible refine LeO.bind ?_ (fun _ => ?_))
      | exact ih0 _ _
      | exact LeO.none _
      | refine LeO.ite ?_ ?_
      | refine LeO.bind ?_ (fun _ => ?_)
theorem tappetref17_StatusOf.mono : ∀ a0 k, LeO (tappetref17_StatusOf.f k a0) (tappetref17_StatusOf.f (k + 1) a0) := by
  intro a0 k
  have ih0 := tappetref17_StatusOf.mono_l k
  unfold tappetref17_StatusOf.f
  repeat' first
      | (with_reducible exact ih0 _ _)
      | (with_reducible exact LeO.refl _)
      | (with_reducible exact LeO.none _)
      | (with_reducible refine LeO.ite ?_ ?_)
      | (with_reducible refine LeO.bind ?_ (fun _ => ?_))
      | exact ih0 _ _
      | exact LeO.none _
      | refine LeO.ite ?_ ?_
      | refine LeO.bind ?_ (fun _ => ?_)
set_option maxHeartbeats 8000000 in
set_option maxRecDepth 100000 in
theorem tappetref17_StatusOf.calls (k : Nat) (a0 : ByteArray) (r1 : Int) (r2 : Bool) (w : World) (h : tappetref17_StatusOf.f k a0 = some (r1, r2)) :
    Calls Try.prog 7 #[.string a0] w fun e w' => e = .returned (.tuple #[.int .i64 r1, .bool r2]) ∧ Drawn0 w w' := by
  have H : (tappetref17_StatusOf.l0 k a0 0) = some (r1, r2) := h
  clear h
  have H' := Aside0.mk H
  clear H
  go_enter Try.func7, Try.ntmps7
  go_wp2
  go_loopg [4] k (fun kq v4 w' => ∃ (x4_1 : Int), v4 = .int .i64 x4_1 ∧ Aside0 (tappetref17_StatusOf.l0 kq a0 x4_1 = some (r1, r2)) ∧ Aside0 (kq ≤ k) ∧ Drawn0 w w')
  case atStart => exact ⟨(0), (by first | rfl | (simp; done) | (simp [*]; done)), H', ⟨Nat.le_refl _⟩, by repeat (first | exact Drawn0.refl _ | apply Drawn0.step)⟩
  case round =>
    clear H'
    obtain ⟨x4_1, rfl, HA, HK1, ⟨m1, rfl⟩⟩ := hrel
    cases gk with
    | zero => exact absurd HA.out (by simp [tappetref17_StatusOf.l0])
    | succ k1 =>
      have H := HA.out
      clear HA
      simp only [tappetref17_StatusOf.l0] at H
      by_cases c2 : x4_1 < 40
      · rw [if_pos c2] at H
        have c2b0 : decide (x4_1 < 40) = true := decide_eq_true c2
        clear c2
        replace H := Option.bind_eq_some_iff.mp H
        obtain ⟨t101, A30, H⟩ := H
        replace H : (if t101.toList = ([] : List UInt8) then (tappetref17_StatusOf.l0 k1 a0 (wrap64 (x4_1 + 1))) else (if t101.toList = a0.toList then (some (x4_1, true)) else (tappetref17_StatusOf.l0 k1 a0 (wrap64 (x4_1 + 1))))) = some (r1, r2) := H
        have A3 := Aside0.mk A30
        clear A30
        by_cases c4 : t101.toList = ([] : List UInt8)
        · rw [if_pos c4] at H
          have c4b0 : (t101.toList == ([] : List UInt8)) = true := beq_iff_eq.mpr c4
          have c4bE : t101.toList.isEmpty = true := by simpa using c4b0
          have c4b1 : (t101.toList != ([] : List UInt8)) = false := bne_eq_false_iff_eq.mpr c4
          clear c4
          have H' := Aside0.mk H
          clear H
          go_wp2_with (first | ((with_reducible refine gate_callee (f := 11) rfl ?_); refine goesL_ (some 11) rfl rfl Try.func11 (by kernel_rfl) rfl #[.int .i64 x4_1] rfl (by (try simp only [List.map_toArray, List.map_cons, List.map_nil]); first | done | rfl | (simp only [List.length_drop, List.length_take]; rfl)) ?_; (with_reducible refine (tappetref17_Status.calls x4_1 t101 _ A3.out).mono ?_); rintro e w' ⟨rfl, ⟨nd, rfl⟩⟩; refine ⟨_, rfl, ?_⟩))
          go_roundg k1
          case measure => have := HK1.out; omega
          case rel => exact ⟨(wrap64 (x4_1 + 1)), (by first | rfl | (simp; done) | (simp [*]; done)), H', ⟨by have := HK1.out; omega⟩, by repeat (first | exact Drawn0.refl _ | apply Drawn0.step)⟩
        · rw [if_neg c4] at H
          have c4b0 : (t101.toList == ([] : List UInt8)) = false := beq_eq_false_iff_ne.mpr c4
          have c4bE : t101.toList.isEmpty = false := by simpa using c4b0
          have c4b1 : (t101.toList != ([] : List UInt8)) = true := bne_iff_ne.mpr c4
          by_cases c5 : t101.toList = a0.toList
          · rw [if_pos c5] at H
            have c5b0 : (t101.toList == a0.toList) = true := beq_iff_eq.mpr c5
            have c5b1 : (t101.toList != a0.toList) = false := bne_eq_false_iff_eq.mpr c5
            clear c5
            simp only [Option.some.injEq, Prod.mk.injEq] at H
            obtain ⟨rfl, rfl⟩ := H
            go_wp2_with (first | ((with_reducible refine gate_callee (f := 11) rfl ?_); refine goesL_ (some 11) rfl rfl Try.func11 (by kernel_rfl) rfl #[.int .i64 x4_1] rfl (by (try simp only [List.map_toArray, List.map_cons, List.map_nil]); first | done | rfl | (simp only [List.length_drop, List.length_take]; rfl)) ?_; (with_reducible refine (tappetref17_Status.calls x4_1 t101 _ A3.out).mono ?_); rintro e w' ⟨rfl, ⟨nd, rfl⟩⟩; refine ⟨_, rfl, ?_⟩))
            go_ret2
            exact ⟨by first | rfl | (simp; done) | (simp [*]; done), by repeat (first | exact Drawn0.refl _ | apply Drawn0.step)⟩
          · rw [if_neg c5] at H
            have c5b0 : (t101.toList == a0.toList) = false := beq_eq_false_iff_ne.mpr c5
            have c5b1 : (t101.toList != a0.toList) = true := bne_iff_ne.mpr c5
            have H' := Aside0.mk H
            clear H
            go_wp2_with (first | ((with_reducible refine gate_callee (f := 11) rfl ?_); refine goesL_ (some 11) rfl rfl Try.func11 (by kernel_rfl) rfl #[.int .i64 x4_1] rfl (by (try simp only [List.map_toArray, List.map_cons, List.map_nil]); first | done | rfl | (simp only [List.length_drop, List.length_take]; rfl)) ?_; (with_reducible refine (tappetref17_Status.calls x4_1 t101 _ A3.out).mono ?_); rintro e w' ⟨rfl, ⟨nd, rfl⟩⟩; refine ⟨_, rfl, ?_⟩))
            go_roundg k1
            case measure => have := HK1.out; omega
            case rel => exact ⟨(wrap64 (x4_1 + 1)), (by first | rfl | (simp; done) | (simp [*]; done)), H', ⟨by have := HK1.out; omega⟩, by repeat (first | exact Drawn0.refl _ | apply Drawn0.step)⟩
      · rw [if_neg c2] at H
        have c2b0 : decide (x4_1 < 40) = false := decide_eq_false c2
        clear c2
        simp only [Option.some.injEq, Prod.mk.injEq] at H
        obtain ⟨rfl, rfl⟩ := H
        go_wp2
        go_ret2
        exact ⟨by first | rfl | (simp; done) | (simp [*]; done), by repeat (first | exact Drawn0.refl _ | apply Drawn0.step)⟩

/-! ### level_Of: function 8 -/
def level_Of.f (a0 : Int) (a1 : Int) : Option (Int) := if a0 = 1 then (some 1) else (if a0 = 2 then (if a1 = 1 then (some 2) else (if a1 = 2 then (some 3) else (some 0))) else (if a0 = 3 then (some 7) else (if a0 = 4 then (some 4) else (if a0 = 5 then (some 8) else (if a0 = 6 then (some 5) else (if a0 = 7 then (some 6) else (if a0 = 8 then (some 9) else (some 0))))))))
set_option maxHeartbeats 8000000 in
set_option maxRecDepth 100000 in
theorem level_Of.calls (a0 : Int) (a1 : Int) (r : Int) (w : World) (h : level_Of.f a0 a1 = some r) :
    Calls Try.prog 8 #[.int .i64 a0, .int .i64 a1] w fun e w' => e = .returned (.int .i64 r) ∧ Drawn0 w w' := by
  have H : (if a0 = 1 then (some 1) else (if a0 = 2 then (if a1 = 1 then (some 2) else (if a1 = 2 then (some 3) else (some 0))) else (if a0 = 3 then (some 7) else (if a0 = 4 then (some 4) else (if a0 = 5 then (some 8) else (if a0 = 6 then (some 5) else (if a0 = 7 then (some 6) else (if a0 = 8 then (some 9) else (some 0))))))))) = some r := h
  clear h
  by_cases c3 : a0 = 1
  · rw [if_pos c3] at H
    have c3b0 : (a0 == 1) = true := beq_iff_eq.mpr c3
    have c3b1 : (a0 != 1) = false := bne_eq_false_iff_eq.mpr c3
    clear c3
    obtain rfl := Option.some.inj H
    go_enter Try.func8, Try.ntmps8
    go_wp2
    go_ret
    exact ⟨by first | rfl | (simp; done) | (simp [*]; done), by repeat (first | exact Drawn0.refl _ | apply Drawn0.step)⟩
  · rw [if_neg c3] at H
    have c3b0 : (a0 == 1) = false := beq_eq_false_iff_ne.mpr c3
    have c3b1 : (a0 != 1) = true := bne_iff_ne.mpr c3
    by_cases c4 : a0 = 2
    · rw [if_pos c4] at H
      have c4b0 : (a0 == 2) = true := beq_iff_eq.mpr c4
      have c4b1 : (a0 != 2) = false := bne_eq_false_iff_eq.mpr c4
      clear c4
      by_cases c5 : a1 = 1
      · rw [if_pos c5] at H
        have c5b0 : (a1 == 1) = true := beq_iff_eq.mpr c5
        have c5b1 : (a1 != 1) = false := bne_eq_false_iff_eq.mpr c5
        clear c5
        obtain rfl := Option.some.inj H
        go_enter Try.func8, Try.ntmps8
        go_wp2
        go_ret
        exact ⟨by first | rfl | (simp; done) | (simp [*]; done), by repeat (first | exact Drawn0.refl _ | apply Drawn0.step)⟩
      · rw [if_neg c5] at H
        have c5b0 : (a1 == 1) = false := beq_eq_false_iff_ne.mpr c5
        have c5b1 : (a1 != 1) = true := bne_iff_ne.mpr c5
        by_cases c6 : a1 = 2
        · rw [if_pos c6] at H
          have c6b0 : (a1 == 2) = true := beq_iff_eq.mpr c6
          have c6b1 : (a1 != 2) = false := bne_eq_false_iff_eq.mpr c6
          clear c6
          obtain rfl := Option.some.inj H
          go_enter Try.func8, Try.ntmps8
          go_wp2
          go_ret
          exact ⟨by first | rfl | (simp; done) | (simp [*]; done), by repeat (first | exact Drawn0.refl _ | apply Drawn0.step)⟩
        · rw [if_neg c6] at H
          have c6b0 : (a1 == 2) = false := beq_eq_false_iff_ne.mpr c6
          have c6b1 : (a1 != 2) = true := bne_iff_ne.mpr c6
          obtain rfl := Option.some.inj H
          go_enter Try.func8, Try.ntmps8
          go_wp2
          go_ret
          exact ⟨by first | rfl | (simp; done) | (simp [*]; done), by repeat (first | exact Drawn0.refl _ | apply Drawn0.step)⟩
    · rw [if_neg c4] at H
      have c4b0 : (a0 == 2) = false := beq_eq_false_iff_ne.mpr c4
      have c4b1 : (a0 != 2) = true := bne_iff_ne.mpr c4
      by_cases c7 : a0 = 3
      · rw [if_pos c7] at H
        have c7b0 : (a0 == 3) = true := beq_iff_eq.mpr c7
        have c7b1 : (a0 != 3) = false := bne_eq_false_iff_eq.mpr c7
        clear c7
        obtain rfl := Option.some.inj H
        go_enter Try.func8, Try.ntmps8
        go_wp2
        go_ret
        exact ⟨by first | rfl | (simp; done) | (simp [*]; done), by repeat (first | exact Drawn0.refl _ | apply Drawn0.step)⟩
      · rw [if_neg c7] at H
        have c7b0 : (a0 == 3) = false := beq_eq_false_iff_ne.mpr c7
        have c7b1 : (a0 != 3) = true := bne_iff_ne.mpr c7
        by_cases c8 : a0 = 4
        · rw [if_pos c8] at H
          have c8b0 : (a0 == 4) = true := beq_iff_eq.mpr c8
          have c8b1 : (a0 != 4) = false := bne_eq_false_iff_eq.mpr c8
          clear c8
          obtain rfl := Option.some.inj H
          go_enter Try.func8, Try.ntmps8
          go_wp2
          go_ret
          exact ⟨by first | rfl | (simp; done) | (simp [*]; done), by repeat (first | exact Drawn0.refl _ | apply Drawn0.step)⟩
        · rw [if_neg c8] at H
          have c8b0 : (a0 == 4) = false := beq_eq_false_iff_ne.mpr c8
          have c8b1 : (a0 != 4) = true := bne_iff_ne.mpr c8
          by_cases c9 : a0 = 5
          · rw [if_pos c9] at H
            have c9b0 : (a0 == 5) = true := beq_iff_eq.mpr c9
            have c9b1 : (a0 != 5) = false := bne_eq_false_iff_eq.mpr c9
            clear c9
            obtain rfl := Option.some.inj H
            go_enter Try.func8, Try.ntmps8
            go_wp2
            go_ret
            exact ⟨by first | rfl | (simp; done) | (simp [*]; done), by repeat (first | exact Drawn0.refl _ | apply Drawn0.step)⟩
          · rw [if_neg c9] at H
            have c9b0 : (a0 == 5) = false := beq_eq_false_iff_ne.mpr c9
            have c9b1 : (a0 != 5) = true := bne_iff_ne.mpr c9
            by_cases c10 : a0 = 6
            · rw [if_pos c10] at H
              have c10b0 : (a0 == 6) = true := beq_iff_eq.mpr c10
              have c10b1 : (a0 != 6) = false := bne_eq_false_iff_eq.mpr c10
              clear c10
              obtain rfl := Option.some.inj H
              go_enter Try.func8, Try.ntmps8
              go_wp2
              go_ret
              exact ⟨by first | rfl | (simp; done) | (simp [*]; done), by repeat (first | exact Drawn0.refl _ | apply Drawn0.step)⟩
            · rw [if_neg c10] at H
              have c10b0 : (a0 == 6) = false := beq_eq_false_iff_ne.mpr c10
              have c10b1 : (a0 != 6) = true := bne_iff_ne.mpr c10
              by_cases c11 : a0 = 7
              · rw [if_pos c11] at H
                have c11b0 : (a0 == 7) = true := beq_iff_eq.mpr c11
                have c11b1 : (a0 != 7) = false := bne_eq_false_iff_eq.mpr c11
                clear c11
                obtain rfl := Option.some.inj H
                go_enter Try.func8, Try.ntmps8
                go_wp2
                go_ret
                exact ⟨by first | rfl | (simp; done) | (simp [*]; done), by repeat (first | exact Drawn0.refl _ | apply Drawn0.step)⟩
              · rw [if_neg c11] at H
                have c11b0 : (a0 == 7) = false := beq_eq_false_iff_ne.mpr c11
                have c11b1 : (a0 != 7) = true := bne_iff_ne.mpr c11
                by_cases c12 : a0 = 8
                · rw [if_pos c12] at H
                  have c12b0 : (a0 == 8) = true := beq_iff_eq.mpr c12
                  have c12b1 : (a0 != 8) = false := bne_eq_false_iff_eq.mpr c12
                  clear c12
                  obtain rfl := Option.some.inj H
                  go_enter Try.func8, Try.ntmps8
                  go_wp2
                  go_ret
                  exact ⟨by first | rfl | (simp; done) | (simp [*]; done), by repeat (first | exact Drawn0.refl _ | apply Drawn0.step)⟩
                · rw [if_neg c12] at H
                  have c12b0 : (a0 == 8) = false := beq_eq_false_iff_ne.mpr c12
                  have c12b1 : (a0 != 8) = true := bne_iff_ne.mpr c12
                  obtain rfl := Option.some.inj H
                  go_enter Try.func8, Try.ntmps8
                  go_wp2
                  go_ret
                  exact ⟨by first | rfl | (simp; done) | (simp [*]; done), by repeat (first | exact Drawn0.refl _ | apply Drawn0.step)⟩

/-! ### tappetref17_Of: function 9 -/
def tappetref17_Of.f (a0 : Int) (a1 : Int) : Option (Int) := if a0 = 1 then (some 1) else (if a0 = 2 then (if a1 = 1 then (some (wrap64 (1 + a1))) else (if a1 = 2 then (some (wrap64 (1 + a1))) else (some 0))) else (if a0 = 4 then (some 4) else (if a0 = 6 then (some 5) else (if a0 = 7 then (some 6) else (if a0 = 3 then (some 7) else (if a0 = 5 then (some 8) else (if a0 = 8 then (some 9) else (some 0))))))))
set_option maxHeartbeats 8000000 in
set_option maxRecDepth 100000 in
theorem tappetref17_Of.calls (a0 : Int) (a1 : Int) (r : Int) (w : World) (h : tappetref17_Of.f a0 a1 = some r) :
    Calls Try.prog 9 #[.int .i64 a0, .int .i64 a1] w fun e w' => e = .returned (.int .i64 r) ∧ Drawn0 w w' := by
  have H : (if a0 = 1 then (some 1) else (if a0 = 2 then (if a1 = 1 then (some (wrap64 (1 + a1))) else (if a1 = 2 then (some (wrap64 (1 + a1))) else (some 0))) else (if a0 = 4 then (some 4) else (if a0 = 6 then (some 5) else (if a0 = 7 then (some 6) else (if a0 = 3 then (some 7) else (if a0 = 5 then (some 8) else (if a0 = 8 then (some 9) else (some 0))))))))) = some r := h
  clear h
  by_cases c3 : a0 = 1
  · rw [if_pos c3] at H
    have c3b0 : (a0 == 1) = true := beq_iff_eq.mpr c3
    have c3b1 : (a0 != 1) = false := bne_eq_false_iff_eq.mpr c3
    clear c3
    obtain rfl := Option.some.inj H
    go_enter Try.func9, Try.ntmps9
    go_wp2
    go_ret
    exact ⟨by first | rfl | (simp; done) | (simp [*]; done), by repeat (first | exact Drawn0.refl _ | apply Drawn0.step)⟩
  · rw [if_neg c3] at H
    have c3b0 : (a0 == 1) = false := beq_eq_false_iff_ne.mpr c3
    have c3b1 : (a0 != 1) = true := bne_iff_ne.mpr c3
    by_cases c4 : a0 = 2
    · rw [if_pos c4] at H
      have c4b0 : (a0 == 2) = true := beq_iff_eq.mpr c4
      have c4b1 : (a0 != 2) = false := bne_eq_false_iff_eq.mpr c4
      clear c4
      by_cases c5 : a1 = 1
      · rw [if_pos c5] at H
        have c5b0 : (a1 == 1) = true := beq_iff_eq.mpr c5
        have c5b1 : (a1 != 1) = false := bne_eq_false_iff_eq.mpr c5
        clear c5
        obtain rfl := Option.some.inj H
        go_enter Try.func9, Try.ntmps9
        go_wp2
        go_ret
        exact ⟨by first | rfl | (simp; done) | (simp [*]; done), by repeat (first | exact Drawn0.refl _ | apply Drawn0.step)⟩
      · rw [if_neg c5] at H
        have c5b0 : (a1 == 1) = false := beq_eq_false_iff_ne.mpr c5
        have c5b1 : (a1 != 1) = true := bne_iff_ne.mpr c5
        by_cases c6 : a1 = 2
        · rw [if_pos c6] at H
          have c6b0 : (a1 == 2) = true := beq_iff_eq.mpr c6
          have c6b1 : (a1 != 2) = false := bne_eq_false_iff_eq.mpr c6
          clear c6
          obtain rfl := Option.some.inj H
          go_enter Try.func9, Try.ntmps9
          go_wp2
          go_ret
          exact ⟨by first | rfl | (simp; done) | (simp [*]; done), by repeat (first | exact Drawn0.refl _ | apply Drawn0.step)⟩
        · rw [if_neg c6] at H
          have c6b0 : (a1 == 2) = false := beq_eq_false_iff_ne.mpr c6
          have c6b1 : (a1 != 2) = true := bne_iff_ne.mpr c6
          obtain rfl := Option.some.inj H
          go_enter Try.func9, Try.ntmps9
          go_wp2
          go_ret
          exact ⟨by first | rfl | (simp; done) | (simp [*]; done), by repeat (first | exact Drawn0.refl _ | apply Drawn0.step)⟩
    · rw [if_neg c4] at H
      have c4b0 : (a0 == 2) = false := beq_eq_false_iff_ne.mpr c4
      have c4b1 : (a0 != 2) = true := bne_iff_ne.mpr c4
      by_cases c7 : a0 = 4
      · rw [if_pos c7] at H
        have c7b0 : (a0 == 4) = true := beq_iff_eq.mpr c7
        have c7b1 : (a0 != 4) = false := bne_eq_false_iff_eq.mpr c7
        clear c7
        obtain rfl := Option.some.inj H
        go_enter Try.func9, Try.ntmps9
        go_wp2
        go_ret
        exact ⟨by first | rfl | (simp; done) | (simp [*]; done), by repeat (first | exact Drawn0.refl _ | apply Drawn0.step)⟩
      · rw [if_neg c7] at H
        have c7b0 : (a0 == 4) = false := beq_eq_false_iff_ne.mpr c7
        have c7b1 : (a0 != 4) = true := bne_iff_ne.mpr c7
        by_cases c8 : a0 = 6
        · rw [if_pos c8] at H
          have c8b0 : (a0 == 6) = true := beq_iff_eq.mpr c8
          have c8b1 : (a0 != 6) = false := bne_eq_false_iff_eq.mpr c8
          clear c8
          obtain rfl := Option.some.inj H
          go_enter Try.func9, Try.ntmps9
          go_wp2
          go_ret
          exact ⟨by first | rfl | (simp; done) | (simp [*]; done), by repeat (first | exact Drawn0.refl _ | apply Drawn0.step)⟩
        · rw [if_neg c8] at H
          have c8b0 : (a0 == 6) = false := beq_eq_false_iff_ne.mpr c8
          have c8b1 : (a0 != 6) = true := bne_iff_ne.mpr c8
          by_cases c9 : a0 = 7
          · rw [if_pos c9] at H
            have c9b0 : (a0 == 7) = true := beq_iff_eq.mpr c9
            have c9b1 : (a0 != 7) = false := bne_eq_false_iff_eq.mpr c9
            clear c9
            obtain rfl := Option.some.inj H
            go_enter Try.func9, Try.ntmps9
            go_wp2
            go_ret
            exact ⟨by first | rfl | (simp; done) | (simp [*]; done), by repeat (first | exact Drawn0.refl _ | apply Drawn0.step)⟩
          · rw [if_neg c9] at H
            have c9b0 : (a0 == 7) = false := beq_eq_false_iff_ne.mpr c9
            have c9b1 : (a0 != 7) = true := bne_iff_ne.mpr c9
            by_cases c10 : a0 = 3
            · rw [if_pos c10] at H
              have c10b0 : (a0 == 3) = true := beq_iff_eq.mpr c10
              have c10b1 : (a0 != 3) = false := bne_eq_false_iff_eq.mpr c10
              clear c10
              obtain rfl := Option.some.inj H
              go_enter Try.func9, Try.ntmps9
              go_wp2
              go_ret
              exact ⟨by first | rfl | (simp; done) | (simp [*]; done), by repeat (first | exact Drawn0.refl _ | apply Drawn0.step)⟩
            · rw [if_neg c10] at H
              have c10b0 : (a0 == 3) = false := beq_eq_false_iff_ne.mpr c10
              have c10b1 : (a0 != 3) = true := bne_iff_ne.mpr c10
              by_cases c11 : a0 = 5
              · rw [if_pos c11] at H
                have c11b0 : (a0 == 5) = true := beq_iff_eq.mpr c11
                have c11b1 : (a0 != 5) = false := bne_eq_false_iff_eq.mpr c11
                clear c11
                obtain rfl := Option.some.inj H
                go_enter Try.func9, Try.ntmps9
                go_wp2
                go_ret
                exact ⟨by first | rfl | (simp; done) | (simp [*]; done), by repeat (first | exact Drawn0.refl _ | apply Drawn0.step)⟩
              · rw [if_neg c11] at H
                have c11b0 : (a0 == 5) = false := beq_eq_false_iff_ne.mpr c11
                have c11b1 : (a0 != 5) = true := bne_iff_ne.mpr c11
                by_cases c12 : a0 = 8
                · rw [if_pos c12] at H
                  have c12b0 : (a0 == 8) = true := beq_iff_eq.mpr c12
                  have c12b1 : (a0 != 8) = false := bne_eq_false_iff_eq.mpr c12
                  clear c12
                  obtain rfl := Option.some.inj H
                  go_enter Try.func9, Try.ntmps9
                  go_wp2
                  go_ret
                  exact ⟨by first | rfl | (simp; done) | (simp [*]; done), by repeat (first | exact Drawn0.refl _ | apply Drawn0.step)⟩
                · rw [if_neg c12] at H
                  have c12b0 : (a0 == 8) = false := beq_eq_false_iff_ne.mpr c12
                  have c12b1 : (a0 != 8) = true := bne_iff_ne.mpr c12
                  obtain rfl := Option.some.inj H
                  go_enter Try.func9, Try.ntmps9
                  go_wp2
                  go_ret
                  exact ⟨by first | rfl | (simp; done) | (simp [*]; done), by repeat (first | exact Drawn0.refl _ | apply Drawn0.step)⟩

/-! ### level_Frame: function 12 -/
def level_Frame.f (a0 : Int) : Option (ByteArray) := some (frameP a0)
theorem level_Frame.calls (a0 : Int) (r : ByteArray) (w : World) (h : level_Frame.f a0 = some r) :
    Calls Try.prog 12 #[.int .i64 a0] w fun e w' => e = .returned (.string r) ∧ Below w.heap.size w w' := by
  obtain rfl := Option.some.inj h
  exact frame_calls a0 w

/-! ### tappetref17_Frame: function 13 -/
def tappetref17_Frame.f (a0 : Int) : Option (ByteArray) := (some (([(⟨#[]⟩ : ByteArray), (⟨#[84, 65, 83, 75]⟩ : ByteArray), (⟨#[73, 83, 82]⟩ : ByteArray), (⟨#[83, 84, 65, 82, 84, 85, 80]⟩ : ByteArray), (⟨#[69, 82, 82, 79, 82]⟩ : ByteArray), (⟨#[83, 72, 85, 84, 68, 79, 87, 78]⟩ : ByteArray), (⟨#[80, 82, 69]⟩ : ByteArray), (⟨#[80, 79, 83, 84]⟩ : ByteArray), (⟨#[67, 65, 76, 76, 66, 65, 67, 75]⟩ : ByteArray)] : List ByteArray) : List ByteArray)).bind fun y102 => (if a0 < 1 then (some (⟨#[]⟩ : ByteArray)) else (if a0 ≥ (y102.length : Int) then (some (⟨#[]⟩ : ByteArray)) else (if 0 ≤ a0 then (if a0 < (y102.length : Int) then (some (rdOf ByteArray.empty y102 a0)) else (none)) else (none))))
set_option maxHeartbeats 8000000 in
set_option maxRecDepth 100000 in
theorem tappetref17_Frame.calls (a0 : Int) (r : ByteArray) (w : World) (h : tappetref17_Frame.f a0 = some r) :
    Calls Try.prog 13 #[.int .i64 a0] w fun e w' => e = .returned (.string r) ∧ Below w.heap.size w w' := by
  have HB := Aside0.mk (Below.refl w.heap.size w)
  have H : ((some (([(⟨#[]⟩ : ByteArray), (⟨#[84, 65, 83, 75]⟩ : ByteArray), (⟨#[73, 83, 82]⟩ : ByteArray), (⟨#[83, 84, 65, 82, 84, 85, 80]⟩ : ByteArray), (⟨#[69, 82, 82, 79, 82]⟩ : ByteArray), (⟨#[83, 72, 85, 84, 68, 79, 87, 78]⟩ : ByteArray), (⟨#[80, 82, 69]⟩ : ByteArray), (⟨#[80, 79, 83, 84]⟩ : ByteArray), (⟨#[67, 65, 76, 76, 66, 65, 67, 75]⟩ : ByteArray)] : List ByteArray) : List ByteArray)).bind fun y102 => (if a0 < 1 then (some (⟨#[]⟩ : ByteArray)) else (if a0 ≥ (y102.length : Int) then (some (⟨#[]⟩ : ByteArray)) else (if 0 ≤ a0 then (if a0 < (y102.length : Int) then (some (rdOf ByteArray.empty y102 a0)) else (none)) else (none))))) = some r := h
  clear h
  obtain ⟨y102, hy102⟩ : ∃ y_ : List ByteArray, y_ = (([(⟨#[]⟩ : ByteArray), (⟨#[84, 65, 83, 75]⟩ : ByteArray), (⟨#[73, 83, 82]⟩ : ByteArray), (⟨#[83, 84, 65, 82, 84, 85, 80]⟩ : ByteArray), (⟨#[69, 82, 82, 79, 82]⟩ : ByteArray), (⟨#[83, 72, 85, 84, 68, 79, 87, 78]⟩ : ByteArray), (⟨#[80, 82, 69]⟩ : ByteArray), (⟨#[80, 79, 83, 84]⟩ : ByteArray), (⟨#[67, 65, 76, 76, 66, 65, 67, 75]⟩ : ByteArray)] : List ByteArray)) := ⟨_, rfl⟩
  replace H : (if a0 < 1 then (some (⟨#[]⟩ : ByteArray)) else (if a0 ≥ (y102.length : Int) then (some (⟨#[]⟩ : ByteArray)) else (if 0 ≤ a0 then (if a0 < (y102.length : Int) then (some (rdOf ByteArray.empty y102 a0)) else (none)) else (none)))) = some r := by first | (rw [hy102]; with_reducible exact H) | (have H2_ := (Option.bind_some _ _).symm.trans H; rw [hy102]; with_reducible exact H2_) | (have H2_ := (Option.bind_some _ _).symm.trans H; with_reducible exact H2_) | with_reducible exact H | (rw [hy102]; exact H) | exact H
  have Ny102 := Aside0.mk hy102
  clear hy102
  by_cases c2 : a0 < 1
  · rw [if_pos c2] at H
    have c2b0 : decide (a0 < 1) = true := decide_eq_true c2
    clear c2
    obtain rfl := Option.some.inj H
    go_enter Try.func13, Try.ntmps13
    go_wp2_with (first | ((with_reducible refine gate_dst (N := 4) rfl ?_); (try (refine gate_guard (by rfl) ?_; dsimp only)); refine Kd.R_lit Kd.string _ 9 ?hg (N := 4) ?hd (xs := ([(⟨#[]⟩ : ByteArray), (⟨#[84, 65, 83, 75]⟩ : ByteArray), (⟨#[73, 83, 82]⟩ : ByteArray), (⟨#[83, 84, 65, 82, 84, 85, 80]⟩ : ByteArray), (⟨#[69, 82, 82, 79, 82]⟩ : ByteArray), (⟨#[83, 72, 85, 84, 68, 79, 87, 78]⟩ : ByteArray), (⟨#[80, 82, 69]⟩ : ByteArray), (⟨#[80, 79, 83, 84]⟩ : ByteArray), (⟨#[67, 65, 76, 76, 66, 65, 67, 75]⟩ : ByteArray)] : List ByteArray)) (inner := [.string (⟨#[]⟩ : ByteArray), .string (⟨#[84, 65, 83, 75]⟩ : ByteArray), .string (⟨#[73, 83, 82]⟩ : ByteArray), .string (⟨#[83, 84, 65, 82, 84, 85, 80]⟩ : ByteArray), .string (⟨#[69, 82, 82, 79, 82]⟩ : ByteArray), .string (⟨#[83, 72, 85, 84, 68, 79, 87, 78]⟩ : ByteArray), .string (⟨#[80, 82, 69]⟩ : ByteArray), .string (⟨#[80, 79, 83, 84]⟩ : ByteArray), .string (⟨#[67, 65, 76, 76, 66, 65, 67, 75]⟩ : ByteArray)]) (ok := fun _ => True) (okp := fun _ => True) ?hr ?hp (fun _ hk => hk) trivial (Below.refl _ _) (Nat.le_refl _) (by simp) ?_; (case hd => rfl); (case hg => rfl); (case hr => first | (go_simp; done) | (go_simp; rfl)); (case hp => exact (Reps.one (show Kd.M Kd.string _ _ _ (⟨#[]⟩ : ByteArray) [.string (⟨#[]⟩ : ByteArray)] from rfl) (Reps.one (show Kd.M Kd.string _ _ _ (⟨#[84, 65, 83, 75]⟩ : ByteArray) [.string (⟨#[84, 65, 83, 75]⟩ : ByteArray)] from rfl) (Reps.one (show Kd.M Kd.string _ _ _ (⟨#[73, 83, 82]⟩ : ByteArray) [.string (⟨#[73, 83, 82]⟩ : ByteArray)] from rfl) (Reps.one (show Kd.M Kd.string _ _ _ (⟨#[83, 84, 65, 82, 84, 85, 80]⟩ : ByteArray) [.string (⟨#[83, 84, 65, 82, 84, 85, 80]⟩ : ByteArray)] from rfl) (Reps.one (show Kd.M Kd.string _ _ _ (⟨#[69, 82, 82, 79, 82]⟩ : ByteArray) [.string (⟨#[69, 82, 82, 79, 82]⟩ : ByteArray)] from rfl) (Reps.one (show Kd.M Kd.string _ _ _ (⟨#[83, 72, 85, 84, 68, 79, 87, 78]⟩ : ByteArray) [.string (⟨#[83, 72, 85, 84, 68, 79, 87, 78]⟩ : ByteArray)] from rfl) (Reps.one (show Kd.M Kd.string _ _ _ (⟨#[80, 82, 69]⟩ : ByteArray) [.string (⟨#[80, 82, 69]⟩ : ByteArray)] from rfl) (Reps.one (show Kd.M Kd.string _ _ _ (⟨#[80, 79, 83, 84]⟩ : ByteArray) [.string (⟨#[80, 79, 83, 84]⟩ : ByteArray)] from rfl) (Reps.one (show Kd.M Kd.string _ _ _ (⟨#[67, 65, 76, 76, 66, 65, 67, 75]⟩ : ByteArray) [.string (⟨#[67, 65, 76, 76, 66, 65, 67, 75]⟩ : ByteArray)] from rfl) (Reps.none _ _))))))))))); intro v103 w3 ho4 hb hg_ hnew_; clear hg_ hnew_; (first | rw [← Ny102.out] at ho4 | (simp only [Int.reduceToNat] at ho4; rw [← Ny102.out] at ho4)); have n0_ := Aside0.mk (Kd.R_lower ho4 (below_size (by repeat (first | (with_reducible first | exact HB.out | apply below_alloc | apply pw_below_drewN | apply below_drew1) | exact HB.out)))); have n1_ := Aside0.mk (below_step (by repeat (first | (with_reducible first | exact HB.out | apply below_alloc | apply pw_below_drewN | apply below_drew1) | exact HB.out)) hb); clear HB; have HO104 := n0_; have HB := n1_; clear n0_ n1_; clear hb ho4))
    go_ret
    exact ⟨by first | rfl | (simp [errW_none, errW_some] <;> rfl) | (simp [*, errW_none, errW_some] <;> rfl), by repeat (first | (with_reducible first | exact HB.out | apply below_alloc | apply pw_below_drewN | apply below_drew1) | exact HB.out)⟩
  · rw [if_neg c2] at H
    have c2b0 : decide (a0 < 1) = false := decide_eq_false c2
    clear c2
    by_cases c5 : a0 ≥ (y102.length : Int)
    · rw [if_pos c5] at H
      have c5b0 : decide ((y102.length : Int) ≤ a0) = true := decide_eq_true c5
      clear c5
      obtain rfl := Option.some.inj H
      go_enter Try.func13, Try.ntmps13
      go_wp2_with (first | ((with_reducible refine gate_dst (N := 4) rfl ?_); (try (refine gate_guard (by rfl) ?_; dsimp only)); refine Kd.R_lit Kd.string _ 9 ?hg (N := 4) ?hd (xs := ([(⟨#[]⟩ : ByteArray), (⟨#[84, 65, 83, 75]⟩ : ByteArray), (⟨#[73, 83, 82]⟩ : ByteArray), (⟨#[83, 84, 65, 82, 84, 85, 80]⟩ : ByteArray), (⟨#[69, 82, 82, 79, 82]⟩ : ByteArray), (⟨#[83, 72, 85, 84, 68, 79, 87, 78]⟩ : ByteArray), (⟨#[80, 82, 69]⟩ : ByteArray), (⟨#[80, 79, 83, 84]⟩ : ByteArray), (⟨#[67, 65, 76, 76, 66, 65, 67, 75]⟩ : ByteArray)] : List ByteArray)) (inner := [.string (⟨#[]⟩ : ByteArray), .string (⟨#[84, 65, 83, 75]⟩ : ByteArray), .string (⟨#[73, 83, 82]⟩ : ByteArray), .string (⟨#[83, 84, 65, 82, 84, 85, 80]⟩ : ByteArray), .string (⟨#[69, 82, 82, 79, 82]⟩ : ByteArray), .string (⟨#[83, 72, 85, 84, 68, 79, 87, 78]⟩ : ByteArray), .string (⟨#[80, 82, 69]⟩ : ByteArray), .string (⟨#[80, 79, 83, 84]⟩ : ByteArray), .string (⟨#[67, 65, 76, 76, 66, 65, 67, 75]⟩ : ByteArray)]) (ok := fun _ => True) (okp := fun _ => True) ?hr ?hp (fun _ hk => hk) trivial (Below.refl _ _) (Nat.le_refl _) (by simp) ?_; (case hd => rfl); (case hg => rfl); (case hr => first | (go_simp; done) | (go_simp; rfl)); (case hp => exact (Reps.one (show Kd.M Kd.string _ _ _ (⟨#[]⟩ : ByteArray) [.string (⟨#[]⟩ : ByteArray)] from rfl) (Reps.one (show Kd.M Kd.string _ _ _ (⟨#[84, 65, 83, 75]⟩ : ByteArray) [.string (⟨#[84, 65, 83, 75]⟩ : ByteArray)] from rfl) (Reps.one (show Kd.M Kd.string _ _ _ (⟨#[73, 83, 82]⟩ : ByteArray) [.string (⟨#[73, 83, 82]⟩ : ByteArray)] from rfl) (Reps.one (show Kd.M Kd.string _ _ _ (⟨#[83, 84, 65, 82, 84, 85, 80]⟩ : ByteArray) [.string (⟨#[83, 84, 65, 82, 84, 85, 80]⟩ : ByteArray)] from rfl) (Reps.one (show Kd.M Kd.string _ _ _ (⟨#[69, 82, 82, 79, 82]⟩ : ByteArray) [.string (⟨#[69, 82, 82, 79, 82]⟩ : ByteArray)] from rfl) (Reps.one (show Kd.M Kd.string _ _ _ (⟨#[83, 72, 85, 84, 68, 79, 87, 78]⟩ : ByteArray) [.string (⟨#[83, 72, 85, 84, 68, 79, 87, 78]⟩ : ByteArray)] from rfl) (Reps.one (show Kd.M Kd.string _ _ _ (⟨#[80, 82, 69]⟩ : ByteArray) [.string (⟨#[80, 82, 69]⟩ : ByteArray)] from rfl) (Reps.one (show Kd.M Kd.string _ _ _ (⟨#[80, 79, 83, 84]⟩ : ByteArray) [.string (⟨#[80, 79, 83, 84]⟩ : ByteArray)] from rfl) (Reps.one (show Kd.M Kd.string _ _ _ (⟨#[67, 65, 76, 76, 66, 65, 67, 75]⟩ : ByteArray) [.string (⟨#[67, 65, 76, 76, 66, 65, 67, 75]⟩ : ByteArray)] from rfl) (Reps.none _ _))))))))))); intro v103 w6 ho7 hb hg_ hnew_; clear hg_ hnew_; (first | rw [← Ny102.out] at ho7 | (simp only [Int.reduceToNat] at ho7; rw [← Ny102.out] at ho7)); have n0_ := Aside0.mk (Kd.R_lower ho7 (below_size (by repeat (first | (with_reducible first | exact HB.out | apply below_alloc | apply pw_below_drewN | apply below_drew1) | exact HB.out)))); have n1_ := Aside0.mk (below_step (by repeat (first | (with_reducible first | exact HB.out | apply below_alloc | apply pw_below_drewN | apply below_drew1) | exact HB.out)) hb); clear HB; have HO104 := n0_; have HB := n1_; clear n0_ n1_; clear hb ho7; obtain ⟨Ao8, co8, eo8⟩ := Kd.R_slice HO104.out; subst eo8))
      go_ret
      exact ⟨by first | rfl | (simp [errW_none, errW_some] <;> rfl) | (simp [*, errW_none, errW_some] <;> rfl), by repeat (first | (with_reducible first | exact HB.out | apply below_alloc | apply pw_below_drewN | apply below_drew1) | exact HB.out)⟩
    · rw [if_neg c5] at H
      have c5b0 : decide ((y102.length : Int) ≤ a0) = false := decide_eq_false c5
      clear c5
      by_cases c9 : 0 ≤ a0
      · rw [if_pos c9] at H
        have c9b0 : decide (0 ≤ a0) = true := decide_eq_true c9
        clear c9
        by_cases c10 : a0 < (y102.length : Int)
        · rw [if_pos c10] at H
          have c10b0 : decide (a0 < (y102.length : Int)) = true := decide_eq_true c10
          clear c10
          obtain rfl := Option.some.inj H
          go_enter Try.func13, Try.ntmps13
          go_wp2_with (first | ((with_reducible refine gate_dst (N := 4) rfl ?_); (try (refine gate_guard (by rfl) ?_; dsimp only)); refine Kd.R_lit Kd.string _ 9 ?hg (N := 4) ?hd (xs := ([(⟨#[]⟩ : ByteArray), (⟨#[84, 65, 83, 75]⟩ : ByteArray), (⟨#[73, 83, 82]⟩ : ByteArray), (⟨#[83, 84, 65, 82, 84, 85, 80]⟩ : ByteArray), (⟨#[69, 82, 82, 79, 82]⟩ : ByteArray), (⟨#[83, 72, 85, 84, 68, 79, 87, 78]⟩ : ByteArray), (⟨#[80, 82, 69]⟩ : ByteArray), (⟨#[80, 79, 83, 84]⟩ : ByteArray), (⟨#[67, 65, 76, 76, 66, 65, 67, 75]⟩ : ByteArray)] : List ByteArray)) (inner := [.string (⟨#[]⟩ : ByteArray), .string (⟨#[84, 65, 83, 75]⟩ : ByteArray), .string (⟨#[73, 83, 82]⟩ : ByteArray), .string (⟨#[83, 84, 65, 82, 84, 85, 80]⟩ : ByteArray), .string (⟨#[69, 82, 82, 79, 82]⟩ : ByteArray), .string (⟨#[83, 72, 85, 84, 68, 79, 87, 78]⟩ : ByteArray), .string (⟨#[80, 82, 69]⟩ : ByteArray), .string (⟨#[80, 79, 83, 84]⟩ : ByteArray), .string (⟨#[67, 65, 76, 76, 66, 65, 67, 75]⟩ : ByteArray)]) (ok := fun _ => True) (okp := fun _ => True) ?hr ?hp (fun _ hk => hk) trivial (Below.refl _ _) (Nat.le_refl _) (by simp) ?_; (case hd => rfl); (case hg => rfl); (case hr => first | (go_simp; done) | (go_simp; rfl)); (case hp => exact (Reps.one (show Kd.M Kd.string _ _ _ (⟨#[]⟩ : ByteArray) [.string (⟨#[]⟩ : ByteArray)] from rfl) (Reps.one (show Kd.M Kd.string _ _ _ (⟨#[84, 65, 83, 75]⟩ : ByteArray) [.string (⟨#[84, 65, 83, 75]⟩ : ByteArray)] from rfl) (Reps.one (show Kd.M Kd.string _ _ _ (⟨#[73, 83, 82]⟩ : ByteArray) [.string (⟨#[73, 83, 82]⟩ : ByteArray)] from rfl) (Reps.one (show Kd.M Kd.string _ _ _ (⟨#[83, 84, 65, 82, 84, 85, 80]⟩ : ByteArray) [.string (⟨#[83, 84, 65, 82, 84, 85, 80]⟩ : ByteArray)] from rfl) (Reps.one (show Kd.M Kd.string _ _ _ (⟨#[69, 82, 82, 79, 82]⟩ : ByteArray) [.string (⟨#[69, 82, 82, 79, 82]⟩ : ByteArray)] from rfl) (Reps.one (show Kd.M Kd.string _ _ _ (⟨#[83, 72, 85, 84, 68, 79, 87, 78]⟩ : ByteArray) [.string (⟨#[83, 72, 85, 84, 68, 79, 87, 78]⟩ : ByteArray)] from rfl) (Reps.one (show Kd.M Kd.string _ _ _ (⟨#[80, 82, 69]⟩ : ByteArray) [.string (⟨#[80, 82, 69]⟩ : ByteArray)] from rfl) (Reps.one (show Kd.M Kd.string _ _ _ (⟨#[80, 79, 83, 84]⟩ : ByteArray) [.string (⟨#[80, 79, 83, 84]⟩ : ByteArray)] from rfl) (Reps.one (show Kd.M Kd.string _ _ _ (⟨#[67, 65, 76, 76, 66, 65, 67, 75]⟩ : ByteArray) [.string (⟨#[67, 65, 76, 76, 66, 65, 67, 75]⟩ : ByteArray)] from rfl) (Reps.none _ _))))))))))); intro v103 w11 ho12 hb hg_ hnew_; clear hg_ hnew_; (first | rw [← Ny102.out] at ho12 | (simp only [Int.reduceToNat] at ho12; rw [← Ny102.out] at ho12)); have n0_ := Aside0.mk (Kd.R_lower ho12 (below_size (by repeat (first | (with_reducible first | exact HB.out | apply below_alloc | apply pw_below_drewN | apply below_drew1) | exact HB.out)))); have n1_ := Aside0.mk (below_step (by repeat (first | (with_reducible first | exact HB.out | apply below_alloc | apply pw_below_drewN | apply below_drew1) | exact HB.out)) hb); clear HB; have HO104 := n0_; have HB := n1_; clear n0_ n1_; clear hb ho12; obtain ⟨Ao13, co13, eo13⟩ := Kd.R_slice HO104.out; subst eo13; have p105 : 0 ≤ (a0 : Int) := of_decide_eq_true (by first | (with_reducible assumption) | assumption); have q105 : a0 < (y102.length : Int) := of_decide_eq_true (by first | (with_reducible assumption) | assumption); obtain ⟨ad105, e105, hx105_0⟩ := Kd.at_string (Kd.R_reads' HO104.out).2.2 a0 p105 q105; cases e105; replace p105 := eq_true p105; replace q105 := eq_true q105))
          go_ret
          exact ⟨by first | rfl | (simp [errW_none, errW_some] <;> rfl) | (simp [*, errW_none, errW_some] <;> rfl), by repeat (first | (with_reducible first | exact HB.out | apply below_alloc | apply pw_below_drewN | apply below_drew1) | exact HB.out)⟩
        · rw [if_neg c10] at H
          exact absurd H (by simp)
      · rw [if_neg c9] at H
        exact absurd H (by simp)

/-! ### level_State: function 14 -/
def level_State.f (a0 : Int) : Option (ByteArray) := some (stateP a0)
theorem level_State.calls (a0 : Int) (r : ByteArray) (w : World) (h : level_State.f a0 = some r) :
    Calls Try.prog 14 #[.int .i64 a0] w fun e w' => e = .returned (.string r) ∧ Below w.heap.size w w' := by
  obtain rfl := Option.some.inj h
  exact state_calls a0 w

/-! ### tappetref17_State: function 15 -/
def tappetref17_State.f (a0 : Int) : Option (ByteArray) := (some (([(⟨#[82, 85, 78, 78, 73, 78, 71]⟩ : ByteArray), (⟨#[87, 65, 73, 84, 73, 78, 71]⟩ : ByteArray), (⟨#[82, 69, 65, 68, 89]⟩ : ByteArray), (⟨#[83, 85, 83, 80, 69, 78, 68, 69, 68]⟩ : ByteArray)] : List ByteArray) : List ByteArray)).bind fun y106 => (if a0 < 0 then (some (⟨#[]⟩ : ByteArray)) else (if a0 ≥ (y106.length : Int) then (some (⟨#[]⟩ : ByteArray)) else (if 0 ≤ a0 then (if a0 < (y106.length : Int) then (some (rdOf ByteArray.empty y106 a0)) else (none)) else (none))))
set_option maxHeartbeats 8000000 in
set_option maxRecDepth 100000 in
theorem tappetref17_State.calls (a0 : Int) (r : ByteArray) (w : World) (h : tappetref17_State.f a0 = some r) :
    Calls Try.prog 15 #[.int .i64 a0] w fun e w' => e = .returned (.string r) ∧ Below w.heap.size w w' := by
  have HB := Aside0.mk (Below.refl w.heap.size w)
  have H : ((some (([(⟨#[82, 85, 78, 78, 73, 78, 71]⟩ : ByteArray), (⟨#[87, 65, 73, 84, 73, 78, 71]⟩ : ByteArray), (⟨#[82, 69, 65, 68, 89]⟩ : ByteArray), (⟨#[83, 85, 83, 80, 69, 78, 68, 69, 68]⟩ : ByteArray)] : List ByteArray) : List ByteArray)).bind fun y106 => (if a0 < 0 then (some (⟨#[]⟩ : ByteArray)) else (if a0 ≥ (y106.length : Int) then (some (⟨#[]⟩ : ByteArray)) else (if 0 ≤ a0 then (if a0 < (y106.length : Int) then (some (rdOf ByteArray.empty y106 a0)) else (none)) else (none))))) = some r := h
  clear h
  obtain ⟨y106, hy106⟩ : ∃ y_ : List ByteArray, y_ = (([(⟨#[82, 85, 78, 78, 73, 78, 71]⟩ : ByteArray), (⟨#[87, 65, 73, 84, 73, 78, 71]⟩ : ByteArray), (⟨#[82, 69, 65, 68, 89]⟩ : ByteArray), (⟨#[83, 85, 83, 80, 69, 78, 68, 69, 68]⟩ : ByteArray)] : List ByteArray)) := ⟨_, rfl⟩
  replace H : (if a0 < 0 then (some (⟨#[]⟩ : ByteArray)) else (if a0 ≥ (y106.length : Int) then (some (⟨#[]⟩ : ByteArray)) else (if 0 ≤ a0 then (if a0 < (y106.length : Int) then (some (rdOf ByteArray.empty y106 a0)) else (none)) else (none)))) = some r := by first | (rw [hy106]; with_reducible exact H) | (have H2_ := (Option.bind_some _ _).symm.trans H; rw [hy106]; with_reducible exact H2_) | (have H2_ := (Option.bind_some _ _).symm.trans H; with_reducible exact H2_) | with_reducible exact H | (rw [hy106]; exact H) | exact H
  have Ny106 := Aside0.mk hy106
  clear hy106
  by_cases c2 : a0 < 0
  · rw [if_pos c2] at H
    have c2b0 : decide (a0 < 0) = true := decide_eq_true c2
    clear c2
    obtain rfl := Option.some.inj H
    go_enter Try.func15, Try.ntmps15
    go_wp2_with (first | ((with_reducible refine gate_dst (N := 4) rfl ?_); (try (refine gate_guard (by rfl) ?_; dsimp only)); refine Kd.R_lit Kd.string _ 9 ?hg (N := 4) ?hd (xs := ([(⟨#[82, 85, 78, 78, 73, 78, 71]⟩ : ByteArray), (⟨#[87, 65, 73, 84, 73, 78, 71]⟩ : ByteArray), (⟨#[82, 69, 65, 68, 89]⟩ : ByteArray), (⟨#[83, 85, 83, 80, 69, 78, 68, 69, 68]⟩ : ByteArray)] : List ByteArray)) (inner := [.string (⟨#[82, 85, 78, 78, 73, 78, 71]⟩ : ByteArray), .string (⟨#[87, 65, 73, 84, 73, 78, 71]⟩ : ByteArray), .string (⟨#[82, 69, 65, 68, 89]⟩ : ByteArray), .string (⟨#[83, 85, 83, 80, 69, 78, 68, 69, 68]⟩ : ByteArray)]) (ok := fun _ => True) (okp := fun _ => True) ?hr ?hp (fun _ hk => hk) trivial (Below.refl _ _) (Nat.le_refl _) (by simp) ?_; (case hd => rfl); (case hg => rfl); (case hr => first | (go_simp; done) | (go_simp; rfl)); (case hp => exact (Reps.one (show Kd.M Kd.string _ _ _ (⟨#[82, 85, 78, 78, 73, 78, 71]⟩ : ByteArray) [.string (⟨#[82, 85, 78, 78, 73, 78, 71]⟩ : ByteArray)] from rfl) (Reps.one (show Kd.M Kd.string _ _ _ (⟨#[87, 65, 73, 84, 73, 78, 71]⟩ : ByteArray) [.string (⟨#[87, 65, 73, 84, 73, 78, 71]⟩ : ByteArray)] from rfl) (Reps.one (show Kd.M Kd.string _ _ _ (⟨#[82, 69, 65, 68, 89]⟩ : ByteArray) [.string (⟨#[82, 69, 65, 68, 89]⟩ : ByteArray)] from rfl) (Reps.one (show Kd.M Kd.string _ _ _ (⟨#[83, 85, 83, 80, 69, 78, 68, 69, 68]⟩ : ByteArray) [.string (⟨#[83, 85, 83, 80, 69, 78, 68, 69, 68]⟩ : ByteArray)] from rfl) (Reps.none _ _)))))); intro v107 w3 ho4 hb hg_ hnew_; clear hg_ hnew_; (first | rw [← Ny106.out] at ho4 | (simp only [Int.reduceToNat] at ho4; rw [← Ny106.out] at ho4)); have n0_ := Aside0.mk (Kd.R_lower ho4 (below_size (by repeat (first | (with_reducible first | exact HB.out | apply below_alloc | apply pw_below_drewN | apply below_drew1) | exact HB.out)))); have n1_ := Aside0.mk (below_step (by repeat (first | (with_reducible first | exact HB.out | apply below_alloc | apply pw_below_drewN | apply below_drew1) | exact HB.out)) hb); clear HB; have HO108 := n0_; have HB := n1_; clear n0_ n1_; clear hb ho4))
    go_ret
    exact ⟨by first | rfl | (simp [errW_none, errW_some] <;> rfl) | (simp [*, errW_none, errW_some] <;> rfl), by repeat (first | (with_reducible first | exact HB.out | apply below_alloc | apply pw_below_drewN | apply below_drew1) | exact HB.out)⟩
  · rw [if_neg c2] at H
    have c2b0 : decide (a0 < 0) = false := decide_eq_false c2
    clear c2
    by_cases c5 : a0 ≥ (y106.length : Int)
    · rw [if_pos c5] at H
      have c5b0 : decide ((y106.length : Int) ≤ a0) = true := decide_eq_true c5
      clear c5
      obtain rfl := Option.some.inj H
      go_enter Try.func15, Try.ntmps15
      go_wp2_with (first | ((with_reducible refine gate_dst (N := 4) rfl ?_); (try (refine gate_guard (by rfl) ?_; dsimp only)); refine Kd.R_lit Kd.string _ 9 ?hg (N := 4) ?hd (xs := ([(⟨#[82, 85, 78, 78, 73, 78, 71]⟩ : ByteArray), (⟨#[87, 65, 73, 84, 73, 78, 71]⟩ : ByteArray), (⟨#[82, 69, 65, 68, 89]⟩ : ByteArray), (⟨#[83, 85, 83, 80, 69, 78, 68, 69, 68]⟩ : ByteArray)] : List ByteArray)) (inner := [.string (⟨#[82, 85, 78, 78, 73, 78, 71]⟩ : ByteArray), .string (⟨#[87, 65, 73, 84, 73, 78, 71]⟩ : ByteArray), .string (⟨#[82, 69, 65, 68, 89]⟩ : ByteArray), .string (⟨#[83, 85, 83, 80, 69, 78, 68, 69, 68]⟩ : ByteArray)]) (ok := fun _ => True) (okp := fun _ => True) ?hr ?hp (fun _ hk => hk) trivial (Below.refl _ _) (Nat.le_refl _) (by simp) ?_; (case hd => rfl); (case hg => rfl); (case hr => first | (go_simp; done) | (go_simp; rfl)); (case hp => exact (Reps.one (show Kd.M Kd.string _ _ _ (⟨#[82, 85, 78, 78, 73, 78, 71]⟩ : ByteArray) [.string (⟨#[82, 85, 78, 78, 73, 78, 71]⟩ : ByteArray)] from rfl) (Reps.one (show Kd.M Kd.string _ _ _ (⟨#[87, 65, 73, 84, 73, 78, 71]⟩ : ByteArray) [.string (⟨#[87, 65, 73, 84, 73, 78, 71]⟩ : ByteArray)] from rfl) (Reps.one (show Kd.M Kd.string _ _ _ (⟨#[82, 69, 65, 68, 89]⟩ : ByteArray) [.string (⟨#[82, 69, 65, 68, 89]⟩ : ByteArray)] from rfl) (Reps.one (show Kd.M Kd.string _ _ _ (⟨#[83, 85, 83, 80, 69, 78, 68, 69, 68]⟩ : ByteArray) [.string (⟨#[83, 85, 83, 80, 69, 78, 68, 69, 68]⟩ : ByteArray)] from rfl) (Reps.none _ _)))))); intro v107 w6 ho7 hb hg_ hnew_; clear hg_ hnew_; (first | rw [← Ny106.out] at ho7 | (simp only [Int.reduceToNat] at ho7; rw [← Ny106.out] at ho7)); have n0_ := Aside0.mk (Kd.R_lower ho7 (below_size (by repeat (first | (with_reducible first | exact HB.out | apply below_alloc | apply pw_below_drewN | apply below_drew1) | exact HB.out)))); have n1_ := Aside0.mk (below_step (by repeat (first | (with_reducible first | exact HB.out | apply below_alloc | apply pw_below_drewN | apply below_drew1) | exact HB.out)) hb); clear HB; have HO108 := n0_; have HB := n1_; clear n0_ n1_; clear hb ho7; obtain ⟨Ao8, co8, eo8⟩ := Kd.R_slice HO108.out; subst eo8))
      go_ret
      exact ⟨by first | rfl | (simp [errW_none, errW_some] <;> rfl) | (simp [*, errW_none, errW_some] <;> rfl), by repeat (first | (with_reducible first | exact HB.out | apply below_alloc | apply pw_below_drewN | apply below_drew1) | exact HB.out)⟩
    · rw [if_neg c5] at H
      have c5b0 : decide ((y106.length : Int) ≤ a0) = false := decide_eq_false c5
      clear c5
      by_cases c9 : 0 ≤ a0
      · rw [if_pos c9] at H
        have c9b0 : decide (0 ≤ a0) = true := decide_eq_true c9
        clear c9
        by_cases c10 : a0 < (y106.length : Int)
        · rw [if_pos c10] at H
          have c10b0 : decide (a0 < (y106.length : Int)) = true := decide_eq_true c10
          clear c10
          obtain rfl := Option.some.inj H
          go_enter Try.func15, Try.ntmps15
          go_wp2_with (first | ((with_reducible refine gate_dst (N := 4) rfl ?_); (try (refine gate_guard (by rfl) ?_; dsimp only)); refine Kd.R_lit Kd.string _ 9 ?hg (N := 4) ?hd (xs := ([(⟨#[82, 85, 78, 78, 73, 78, 71]⟩ : ByteArray), (⟨#[87, 65, 73, 84, 73, 78, 71]⟩ : ByteArray), (⟨#[82, 69, 65, 68, 89]⟩ : ByteArray), (⟨#[83, 85, 83, 80, 69, 78, 68, 69, 68]⟩ : ByteArray)] : List ByteArray)) (inner := [.string (⟨#[82, 85, 78, 78, 73, 78, 71]⟩ : ByteArray), .string (⟨#[87, 65, 73, 84, 73, 78, 71]⟩ : ByteArray), .string (⟨#[82, 69, 65, 68, 89]⟩ : ByteArray), .string (⟨#[83, 85, 83, 80, 69, 78, 68, 69, 68]⟩ : ByteArray)]) (ok := fun _ => True) (okp := fun _ => True) ?hr ?hp (fun _ hk => hk) trivial (Below.refl _ _) (Nat.le_refl _) (by simp) ?_; (case hd => rfl); (case hg => rfl); (case hr => first | (go_simp; done) | (go_simp; rfl)); (case hp => exact (Reps.one (show Kd.M Kd.string _ _ _ (⟨#[82, 85, 78, 78, 73, 78, 71]⟩ : ByteArray) [.string (⟨#[82, 85, 78, 78, 73, 78, 71]⟩ : ByteArray)] from rfl) (Reps.one (show Kd.M Kd.string _ _ _ (⟨#[87, 65, 73, 84, 73, 78, 71]⟩ : ByteArray) [.string (⟨#[87, 65, 73, 84, 73, 78, 71]⟩ : ByteArray)] from rfl) (Reps.one (show Kd.M Kd.string _ _ _ (⟨#[82, 69, 65, 68, 89]⟩ : ByteArray) [.string (⟨#[82, 69, 65, 68, 89]⟩ : ByteArray)] from rfl) (Reps.one (show Kd.M Kd.string _ _ _ (⟨#[83, 85, 83, 80, 69, 78, 68, 69, 68]⟩ : ByteArray) [.string (⟨#[83, 85, 83, 80, 69, 78, 68, 69, 68]⟩ : ByteArray)] from rfl) (Reps.none _ _)))))); intro v107 w11 ho12 hb hg_ hnew_; clear hg_ hnew_; (first | rw [← Ny106.out] at ho12 | (simp only [Int.reduceToNat] at ho12; rw [← Ny106.out] at ho12)); have n0_ := Aside0.mk (Kd.R_lower ho12 (below_size (by repeat (first | (with_reducible first | exact HB.out | apply below_alloc | apply pw_below_drewN | apply below_drew1) | exact HB.out)))); have n1_ := Aside0.mk (below_step (by repeat (first | (with_reducible first | exact HB.out | apply below_alloc | apply pw_below_drewN | apply below_drew1) | exact HB.out)) hb); clear HB; have HO108 := n0_; have HB := n1_; clear n0_ n1_; clear hb ho12; obtain ⟨Ao13, co13, eo13⟩ := Kd.R_slice HO108.out; subst eo13; have p109 : 0 ≤ (a0 : Int) := of_decide_eq_true (by first | (with_reducible assumption) | assumption); have q109 : a0 < (y106.length : Int) := of_decide_eq_true (by first | (with_reducible assumption) | assumption); obtain ⟨ad109, e109, hx109_0⟩ := Kd.at_string (Kd.R_reads' HO108.out).2.2 a0 p109 q109; cases e109; replace p109 := eq_true p109; replace q109 := eq_true q109))
          go_ret
          exact ⟨by first | rfl | (simp [errW_none, errW_some] <;> rfl) | (simp [*, errW_none, errW_some] <;> rfl), by repeat (first | (with_reducible first | exact HB.out | apply below_alloc | apply pw_below_drewN | apply below_drew1) | exact HB.out)⟩
        · rw [if_neg c10] at H
          exact absurd H (by simp)
      · rw [if_neg c9] at H
        exact absurd H (by simp)

/-! ### level_services: function 30 -/
def level_services.f  : Option ((List (S56))) := some (([(⟨1, (⟨#[83, 116, 97, 114, 116, 79, 83]⟩ : ByteArray), 1, 0⟩ : S56), (⟨2, (⟨#[83, 104, 117, 116, 100, 111, 119, 110, 79, 83]⟩ : ByteArray), 1, 77⟩ : S56), (⟨3, (⟨#[71, 101, 116, 65, 99, 116, 105, 118, 101, 65, 112, 112, 108, 105, 99, 97, 116, 105, 111, 110, 77, 111, 100, 101]⟩ : ByteArray), 0, 253⟩ : S56), (⟨4, (⟨#[65, 99, 116, 105, 118, 97, 116, 101, 84, 97, 115, 107]⟩ : ByteArray), 1, 5⟩ : S56), (⟨5, (⟨#[84, 101, 114, 109, 105, 110, 97, 116, 101, 84, 97, 115, 107]⟩ : ByteArray), 0, 1⟩ : S56), (⟨6, (⟨#[67, 104, 97, 105, 110, 84, 97, 115, 107]⟩ : ByteArray), 1, 1⟩ : S56), (⟨7, (⟨#[83, 99, 104, 101, 100, 117, 108, 101]⟩ : ByteArray), 0, 1⟩ : S56), (⟨8, (⟨#[71, 101, 116, 84, 97, 115, 107, 73, 68]⟩ : ByteArray), 0, 61⟩ : S56), (⟨9, (⟨#[71, 101, 116, 84, 97, 115, 107, 83, 116, 97, 116, 101]⟩ : ByteArray), 1, 61⟩ : S56), (⟨10, (⟨#[69, 110, 97, 98, 108, 101, 65, 108, 108, 73, 110, 116, 101, 114, 114, 117, 112, 116, 115]⟩ : ByteArray), 0, 7⟩ : S56), (⟨11, (⟨#[68, 105, 115, 97, 98, 108, 101, 65, 108, 108, 73, 110, 116, 101, 114, 114, 117, 112, 116, 115]⟩ : ByteArray), 0, 7⟩ : S56), (⟨12, (⟨#[82, 101, 115, 117, 109, 101, 65, 108, 108, 73, 110, 116, 101, 114, 114, 117, 112, 116, 115]⟩ : ByteArray), 0, 319⟩ : S56), (⟨13, (⟨#[83, 117, 115, 112, 101, 110, 100, 65, 108, 108, 73, 110, 116, 101, 114, 114, 117, 112, 116, 115]⟩ : ByteArray), 0, 319⟩ : S56), (⟨14, (⟨#[82, 101, 115, 117, 109, 101, 79, 83, 73, 110, 116, 101, 114, 114, 117, 112, 116, 115]⟩ : ByteArray), 0, 7⟩ : S56), (⟨15, (⟨#[83, 117, 115, 112, 101, 110, 100, 79, 83, 73, 110, 116, 101, 114, 114, 117, 112, 116, 115]⟩ : ByteArray), 0, 7⟩ : S56), (⟨16, (⟨#[71, 101, 116, 82, 101, 115, 111, 117, 114, 99, 101]⟩ : ByteArray), 1, 5⟩ : S56), (⟨17, (⟨#[82, 101, 108, 101, 97, 115, 101, 82, 101, 115, 111, 117, 114, 99, 101]⟩ : ByteArray), 1, 5⟩ : S56), (⟨18, (⟨#[83, 101, 116, 69, 118, 101, 110, 116]⟩ : ByteArray), 2, 5⟩ : S56), (⟨19, (⟨#[67, 108, 101, 97, 114, 69, 118, 101, 110, 116]⟩ : ByteArray), 1, 1⟩ : S56), (⟨20, (⟨#[71, 101, 116, 69, 118, 101, 110, 116]⟩ : ByteArray), 1, 61⟩ : S56), (⟨21, (⟨#[87, 97, 105, 116, 69, 118, 101, 110, 116]⟩ : ByteArray), 1, 1⟩ : S56), (⟨22, (⟨#[71, 101, 116, 65, 108, 97, 114, 109, 66, 97, 115, 101]⟩ : ByteArray), 1, 61⟩ : S56), (⟨23, (⟨#[71, 101, 116, 65, 108, 97, 114, 109]⟩ : ByteArray), 1, 61⟩ : S56), (⟨24, (⟨#[83, 101, 116, 82, 101, 108, 65, 108, 97, 114, 109]⟩ : ByteArray), 3, 5⟩ : S56), (⟨25, (⟨#[83, 101, 116, 65, 98, 115, 65, 108, 97, 114, 109]⟩ : ByteArray), 3, 5⟩ : S56), (⟨26, (⟨#[67, 97, 110, 99, 101, 108, 65, 108, 97, 114, 109]⟩ : ByteArray), 1, 5⟩ : S56), (⟨40, (⟨#[83, 101, 110, 100, 77, 101, 115, 115, 97, 103, 101]⟩ : ByteArray), 2, 261⟩ : S56), (⟨41, (⟨#[82, 101, 99, 101, 105, 118, 101, 77, 101, 115, 115, 97, 103, 101]⟩ : ByteArray), 1, 261⟩ : S56), (⟨42, (⟨#[71, 101, 116, 77, 101, 115, 115, 97, 103, 101, 83, 116, 97, 116, 117, 115]⟩ : ByteArray), 1, 317⟩ : S56), (⟨43, (⟨#[73, 110, 105, 116, 77, 101, 115, 115, 97, 103, 101]⟩ : ByteArray), 2, 261⟩ : S56), (⟨44, (⟨#[82, 101, 97, 100, 70, 108, 97, 103]⟩ : ByteArray), 1, 263⟩ : S56), (⟨45, (⟨#[82, 101, 115, 101, 116, 70, 108, 97, 103]⟩ : ByteArray), 1, 263⟩ : S56)] : List (S56)))
set_option maxHeartbeats 8000000 in
set_option maxRecDepth 100000 in
theorem level_services.calls  (r : List (S56)) (w : World) (h : level_services.f  = some r) :
    Calls Try.prog 30 #[] w fun e w' => ∃ v0_ : Value, e = .returned (v0_) ∧ Kd.R k56 56 w' w.heap.size (fun _ => True) v0_ r ∧ Below w.heap.size w w' := by
  have hu56 := Try.underlying56
  have HB := Aside0.mk (Below.refl w.heap.size w)
  have H : (some (([(⟨1, (⟨#[83, 116, 97, 114, 116, 79, 83]⟩ : ByteArray), 1, 0⟩ : S56), (⟨2, (⟨#[83, 104, 117, 116, 100, 111, 119, 110, 79, 83]⟩ : ByteArray), 1, 77⟩ : S56), (⟨3, (⟨#[71, 101, 116, 65, 99, 116, 105, 118, 101, 65, 112, 112, 108, 105, 99, 97, 116, 105, 111, 110, 77, 111, 100, 101]⟩ : ByteArray), 0, 253⟩ : S56), (⟨4, (⟨#[65, 99, 116, 105, 118, 97, 116, 101, 84, 97, 115, 107]⟩ : ByteArray), 1, 5⟩ : S56), (⟨5, (⟨#[84, 101, 114, 109, 105, 110, 97, 116, 101, 84, 97, 115, 107]⟩ : ByteArray), 0, 1⟩ : S56), (⟨6, (⟨#[67, 104, 97, 105, 110, 84, 97, 115, 107]⟩ : ByteArray), 1, 1⟩ : S56), (⟨7, (⟨#[83, 99, 104, 101, 100, 117, 108, 101]⟩ : ByteArray), 0, 1⟩ : S56), (⟨8, (⟨#[71, 101, 116, 84, 97, 115, 107, 73, 68]⟩ : ByteArray), 0, 61⟩ : S56), (⟨9, (⟨#[71, 101, 116, 84, 97, 115, 107, 83, 116, 97, 116, 101]⟩ : ByteArray), 1, 61⟩ : S56), (⟨10, (⟨#[69, 110, 97, 98, 108, 101, 65, 108, 108, 73, 110, 116, 101, 114, 114, 117, 112, 116, 115]⟩ : ByteArray), 0, 7⟩ : S56), (⟨11, (⟨#[68, 105, 115, 97, 98, 108, 101, 65, 108, 108, 73, 110, 116, 101, 114, 114, 117, 112, 116, 115]⟩ : ByteArray), 0, 7⟩ : S56), (⟨12, (⟨#[82, 101, 115, 117, 109, 101, 65, 108, 108, 73, 110, 116, 101, 114, 114, 117, 112, 116, 115]⟩ : ByteArray), 0, 319⟩ : S56), (⟨13, (⟨#[83, 117, 115, 112, 101, 110, 100, 65, 108, 108, 73, 110, 116, 101, 114, 114, 117, 112, 116, 115]⟩ : ByteArray), 0, 319⟩ : S56), (⟨14, (⟨#[82, 101, 115, 117, 109, 101, 79, 83, 73, 110, 116, 101, 114, 114, 117, 112, 116, 115]⟩ : ByteArray), 0, 7⟩ : S56), (⟨15, (⟨#[83, 117, 115, 112, 101, 110, 100, 79, 83, 73, 110, 116, 101, 114, 114, 117, 112, 116, 115]⟩ : ByteArray), 0, 7⟩ : S56), (⟨16, (⟨#[71, 101, 116, 82, 101, 115, 111, 117, 114, 99, 101]⟩ : ByteArray), 1, 5⟩ : S56), (⟨17, (⟨#[82, 101, 108, 101, 97, 115, 101, 82, 101, 115, 111, 117, 114, 99, 101]⟩ : ByteArray), 1, 5⟩ : S56), (⟨18, (⟨#[83, 101, 116, 69, 118, 101, 110, 116]⟩ : ByteArray), 2, 5⟩ : S56), (⟨19, (⟨#[67, 108, 101, 97, 114, 69, 118, 101, 110, 116]⟩ : ByteArray), 1, 1⟩ : S56), (⟨20, (⟨#[71, 101, 116, 69, 118, 101, 110, 116]⟩ : ByteArray), 1, 61⟩ : S56), (⟨21, (⟨#[87, 97, 105, 116, 69, 118, 101, 110, 116]⟩ : ByteArray), 1, 1⟩ : S56), (⟨22, (⟨#[71, 101, 116, 65, 108, 97, 114, 109, 66, 97, 115, 101]⟩ : ByteArray), 1, 61⟩ : S56), (⟨23, (⟨#[71, 101, 116, 65, 108, 97, 114, 109]⟩ : ByteArray), 1, 61⟩ : S56), (⟨24, (⟨#[83, 101, 116, 82, 101, 108, 65, 108, 97, 114, 109]⟩ : ByteArray), 3, 5⟩ : S56), (⟨25, (⟨#[83, 101, 116, 65, 98, 115, 65, 108, 97, 114, 109]⟩ : ByteArray), 3, 5⟩ : S56), (⟨26, (⟨#[67, 97, 110, 99, 101, 108, 65, 108, 97, 114, 109]⟩ : ByteArray), 1, 5⟩ : S56), (⟨40, (⟨#[83, 101, 110, 100, 77, 101, 115, 115, 97, 103, 101]⟩ : ByteArray), 2, 261⟩ : S56), (⟨41, (⟨#[82, 101, 99, 101, 105, 118, 101, 77, 101, 115, 115, 97, 103, 101]⟩ : ByteArray), 1, 261⟩ : S56), (⟨42, (⟨#[71, 101, 116, 77, 101, 115, 115, 97, 103, 101, 83, 116, 97, 116, 117, 115]⟩ : ByteArray), 1, 317⟩ : S56), (⟨43, (⟨#[73, 110, 105, 116, 77, 101, 115, 115, 97, 103, 101]⟩ : ByteArray), 2, 261⟩ : S56), (⟨44, (⟨#[82, 101, 97, 100, 70, 108, 97, 103]⟩ : ByteArray), 1, 263⟩ : S56), (⟨45, (⟨#[82, 101, 115, 101, 116, 70, 108, 97, 103]⟩ : ByteArray), 1, 263⟩ : S56)] : List (S56)))) = some r := h
  clear h
  obtain ⟨y110, hy110⟩ : ∃ y_ : List (S56), y_ = (([(⟨1, (⟨#[83, 116, 97, 114, 116, 79, 83]⟩ : ByteArray), 1, 0⟩ : S56), (⟨2, (⟨#[83, 104, 117, 116, 100, 111, 119, 110, 79, 83]⟩ : ByteArray), 1, 77⟩ : S56), (⟨3, (⟨#[71, 101, 116, 65, 99, 116, 105, 118, 101, 65, 112, 112, 108, 105, 99, 97, 116, 105, 111, 110, 77, 111, 100, 101]⟩ : ByteArray), 0, 253⟩ : S56), (⟨4, (⟨#[65, 99, 116, 105, 118, 97, 116, 101, 84, 97, 115, 107]⟩ : ByteArray), 1, 5⟩ : S56), (⟨5, (⟨#[84, 101, 114, 109, 105, 110, 97, 116, 101, 84, 97, 115, 107]⟩ : ByteArray), 0, 1⟩ : S56), (⟨6, (⟨#[67, 104, 97, 105, 110, 84, 97, 115, 107]⟩ : ByteArray), 1, 1⟩ : S56), (⟨7, (⟨#[83, 99, 104, 101, 100, 117, 108, 101]⟩ : ByteArray), 0, 1⟩ : S56), (⟨8, (⟨#[71, 101, 116, 84, 97, 115, 107, 73, 68]⟩ : ByteArray), 0, 61⟩ : S56), (⟨9, (⟨#[71, 101, 116, 84, 97, 115, 107, 83, 116, 97, 116, 101]⟩ : ByteArray), 1, 61⟩ : S56), (⟨10, (⟨#[69, 110, 97, 98, 108, 101, 65, 108, 108, 73, 110, 116, 101, 114, 114, 117, 112, 116, 115]⟩ : ByteArray), 0, 7⟩ : S56), (⟨11, (⟨#[68, 105, 115, 97, 98, 108, 101, 65, 108, 108, 73, 110, 116, 101, 114, 114, 117, 112, 116, 115]⟩ : ByteArray), 0, 7⟩ : S56), (⟨12, (⟨#[82, 101, 115, 117, 109, 101, 65, 108, 108, 73, 110, 116, 101, 114, 114, 117, 112, 116, 115]⟩ : ByteArray), 0, 319⟩ : S56), (⟨13, (⟨#[83, 117, 115, 112, 101, 110, 100, 65, 108, 108, 73, 110, 116, 101, 114, 114, 117, 112, 116, 115]⟩ : ByteArray), 0, 319⟩ : S56), (⟨14, (⟨#[82, 101, 115, 117, 109, 101, 79, 83, 73, 110, 116, 101, 114, 114, 117, 112, 116, 115]⟩ : ByteArray), 0, 7⟩ : S56), (⟨15, (⟨#[83, 117, 115, 112, 101, 110, 100, 79, 83, 73, 110, 116, 101, 114, 114, 117, 112, 116, 115]⟩ : ByteArray), 0, 7⟩ : S56), (⟨16, (⟨#[71, 101, 116, 82, 101, 115, 111, 117, 114, 99, 101]⟩ : ByteArray), 1, 5⟩ : S56), (⟨17, (⟨#[82, 101, 108, 101, 97, 115, 101, 82, 101, 115, 111, 117, 114, 99, 101]⟩ : ByteArray), 1, 5⟩ : S56), (⟨18, (⟨#[83, 101, 116, 69, 118, 101, 110, 116]⟩ : ByteArray), 2, 5⟩ : S56), (⟨19, (⟨#[67, 108, 101, 97, 114, 69, 118, 101, 110, 116]⟩ : ByteArray), 1, 1⟩ : S56), (⟨20, (⟨#[71, 101, 116, 69, 118, 101, 110, 116]⟩ : ByteArray), 1, 61⟩ : S56), (⟨21, (⟨#[87, 97, 105, 116, 69, 118, 101, 110, 116]⟩ : ByteArray), 1, 1⟩ : S56), (⟨22, (⟨#[71, 101, 116, 65, 108, 97, 114, 109, 66, 97, 115, 101]⟩ : ByteArray), 1, 61⟩ : S56), (⟨23, (⟨#[71, 101, 116, 65, 108, 97, 114, 109]⟩ : ByteArray), 1, 61⟩ : S56), (⟨24, (⟨#[83, 101, 116, 82, 101, 108, 65, 108, 97, 114, 109]⟩ : ByteArray), 3, 5⟩ : S56), (⟨25, (⟨#[83, 101, 116, 65, 98, 115, 65, 108, 97, 114, 109]⟩ : ByteArray), 3, 5⟩ : S56), (⟨26, (⟨#[67, 97, 110, 99, 101, 108, 65, 108, 97, 114, 109]⟩ : ByteArray), 1, 5⟩ : S56), (⟨40, (⟨#[83, 101, 110, 100, 77, 101, 115, 115, 97, 103, 101]⟩ : ByteArray), 2, 261⟩ : S56), (⟨41, (⟨#[82, 101, 99, 101, 105, 118, 101, 77, 101, 115, 115, 97, 103, 101]⟩ : ByteArray), 1, 261⟩ : S56), (⟨42, (⟨#[71, 101, 116, 77, 101, 115, 115, 97, 103, 101, 83, 116, 97, 116, 117, 115]⟩ : ByteArray), 1, 317⟩ : S56), (⟨43, (⟨#[73, 110, 105, 116, 77, 101, 115, 115, 97, 103, 101]⟩ : ByteArray), 2, 261⟩ : S56), (⟨44, (⟨#[82, 101, 97, 100, 70, 108, 97, 103]⟩ : ByteArray), 1, 263⟩ : S56), (⟨45, (⟨#[82, 101, 115, 101, 116, 70, 108, 97, 103]⟩ : ByteArray), 1, 263⟩ : S56)] : List (S56))) := ⟨_, rfl⟩
  replace H : (some y110) = some r := by first | (rw [hy110]; with_reducible exact H) | (have H2_ := (Option.bind_some _ _).symm.trans H; rw [hy110]; with_reducible exact H2_) | (have H2_ := (Option.bind_some _ _).symm.trans H; with_reducible exact H2_) | with_reducible exact H | (rw [hy110]; exact H) | exact H
  have Ny110 := Aside0.mk hy110
  clear hy110
  obtain rfl := Option.some.inj H
  go_enter Try.func30, Try.ntmps30
  go_wp2_with (first | ((with_reducible refine gate_dst (N := 33) rfl ?_); refine Kd.R_lit k56 _ 56 ?hg (N := 33) ?hd (xs := ([(⟨1, (⟨#[83, 116, 97, 114, 116, 79, 83]⟩ : ByteArray), 1, 0⟩ : S56), (⟨2, (⟨#[83, 104, 117, 116, 100, 111, 119, 110, 79, 83]⟩ : ByteArray), 1, 77⟩ : S56), (⟨3, (⟨#[71, 101, 116, 65, 99, 116, 105, 118, 101, 65, 112, 112, 108, 105, 99, 97, 116, 105, 111, 110, 77, 111, 100, 101]⟩ : ByteArray), 0, 253⟩ : S56), (⟨4, (⟨#[65, 99, 116, 105, 118, 97, 116, 101, 84, 97, 115, 107]⟩ : ByteArray), 1, 5⟩ : S56), (⟨5, (⟨#[84, 101, 114, 109, 105, 110, 97, 116, 101, 84, 97, 115, 107]⟩ : ByteArray), 0, 1⟩ : S56), (⟨6, (⟨#[67, 104, 97, 105, 110, 84, 97, 115, 107]⟩ : ByteArray), 1, 1⟩ : S56), (⟨7, (⟨#[83, 99, 104, 101, 100, 117, 108, 101]⟩ : ByteArray), 0, 1⟩ : S56), (⟨8, (⟨#[71, 101, 116, 84, 97, 115, 107, 73, 68]⟩ : ByteArray), 0, 61⟩ : S56), (⟨9, (⟨#[71, 101, 116, 84, 97, 115, 107, 83, 116, 97, 116, 101]⟩ : ByteArray), 1, 61⟩ : S56), (⟨10, (⟨#[69, 110, 97, 98, 108, 101, 65, 108, 108, 73, 110, 116, 101, 114, 114, 117, 112, 116, 115]⟩ : ByteArray), 0, 7⟩ : S56), (⟨11, (⟨#[68, 105, 115, 97, 98, 108, 101, 65, 108, 108, 73, 110, 116, 101, 114, 114, 117, 112, 116, 115]⟩ : ByteArray), 0, 7⟩ : S56), (⟨12, (⟨#[82, 101, 115, 117, 109, 101, 65, 108, 108, 73, 110, 116, 101, 114, 114, 117, 112, 116, 115]⟩ : ByteArray), 0, 319⟩ : S56), (⟨13, (⟨#[83, 117, 115, 112, 101, 110, 100, 65, 108, 108, 73, 110, 116, 101, 114, 114, 117, 112, 116, 115]⟩ : ByteArray), 0, 319⟩ : S56), (⟨14, (⟨#[82, 101, 115, 117, 109, 101, 79, 83, 73, 110, 116, 101, 114, 114, 117, 112, 116, 115]⟩ : ByteArray), 0, 7⟩ : S56), (⟨15, (⟨#[83, 117, 115, 112, 101, 110, 100, 79, 83, 73, 110, 116, 101, 114, 114, 117, 112, 116, 115]⟩ : ByteArray), 0, 7⟩ : S56), (⟨16, (⟨#[71, 101, 116, 82, 101, 115, 111, 117, 114, 99, 101]⟩ : ByteArray), 1, 5⟩ : S56), (⟨17, (⟨#[82, 101, 108, 101, 97, 115, 101, 82, 101, 115, 111, 117, 114, 99, 101]⟩ : ByteArray), 1, 5⟩ : S56), (⟨18, (⟨#[83, 101, 116, 69, 118, 101, 110, 116]⟩ : ByteArray), 2, 5⟩ : S56), (⟨19, (⟨#[67, 108, 101, 97, 114, 69, 118, 101, 110, 116]⟩ : ByteArray), 1, 1⟩ : S56), (⟨20, (⟨#[71, 101, 116, 69, 118, 101, 110, 116]⟩ : ByteArray), 1, 61⟩ : S56), (⟨21, (⟨#[87, 97, 105, 116, 69, 118, 101, 110, 116]⟩ : ByteArray), 1, 1⟩ : S56), (⟨22, (⟨#[71, 101, 116, 65, 108, 97, 114, 109, 66, 97, 115, 101]⟩ : ByteArray), 1, 61⟩ : S56), (⟨23, (⟨#[71, 101, 116, 65, 108, 97, 114, 109]⟩ : ByteArray), 1, 61⟩ : S56), (⟨24, (⟨#[83, 101, 116, 82, 101, 108, 65, 108, 97, 114, 109]⟩ : ByteArray), 3, 5⟩ : S56), (⟨25, (⟨#[83, 101, 116, 65, 98, 115, 65, 108, 97, 114, 109]⟩ : ByteArray), 3, 5⟩ : S56), (⟨26, (⟨#[67, 97, 110, 99, 101, 108, 65, 108, 97, 114, 109]⟩ : ByteArray), 1, 5⟩ : S56), (⟨40, (⟨#[83, 101, 110, 100, 77, 101, 115, 115, 97, 103, 101]⟩ : ByteArray), 2, 261⟩ : S56), (⟨41, (⟨#[82, 101, 99, 101, 105, 118, 101, 77, 101, 115, 115, 97, 103, 101]⟩ : ByteArray), 1, 261⟩ : S56), (⟨42, (⟨#[71, 101, 116, 77, 101, 115, 115, 97, 103, 101, 83, 116, 97, 116, 117, 115]⟩ : ByteArray), 1, 317⟩ : S56), (⟨43, (⟨#[73, 110, 105, 116, 77, 101, 115, 115, 97, 103, 101]⟩ : ByteArray), 2, 261⟩ : S56), (⟨44, (⟨#[82, 101, 97, 100, 70, 108, 97, 103]⟩ : ByteArray), 1, 263⟩ : S56), (⟨45, (⟨#[82, 101, 115, 101, 116, 70, 108, 97, 103]⟩ : ByteArray), 1, 263⟩ : S56)] : List (S56))) (inner := [.int .i64 1, .string (⟨#[83, 116, 97, 114, 116, 79, 83]⟩ : ByteArray), .int .i64 1, .int .i64 0, .int .i64 2, .string (⟨#[83, 104, 117, 116, 100, 111, 119, 110, 79, 83]⟩ : ByteArray), .int .i64 1, .int .i64 77, .int .i64 3, .string (⟨#[71, 101, 116, 65, 99, 116, 105, 118, 101, 65, 112, 112, 108, 105, 99, 97, 116, 105, 111, 110, 77, 111, 100, 101]⟩ : ByteArray), .int .i64 0, .int .i64 253, .int .i64 4, .string (⟨#[65, 99, 116, 105, 118, 97, 116, 101, 84, 97, 115, 107]⟩ : ByteArray), .int .i64 1, .int .i64 5, .int .i64 5, .string (⟨#[84, 101, 114, 109, 105, 110, 97, 116, 101, 84, 97, 115, 107]⟩ : ByteArray), .int .i64 0, .int .i64 1, .int .i64 6, .string (⟨#[67, 104, 97, 105, 110, 84, 97, 115, 107]⟩ : ByteArray), .int .i64 1, .int .i64 1, .int .i64 7, .string (⟨#[83, 99, 104, 101, 100, 117, 108, 101]⟩ : ByteArray), .int .i64 0, .int .i64 1, .int .i64 8, .string (⟨#[71, 101, 116, 84, 97, 115, 107, 73, 68]⟩ : ByteArray), .int .i64 0, .int .i64 61, .int .i64 9, .string (⟨#[71, 101, 116, 84, 97, 115, 107, 83, 116, 97, 116, 101]⟩ : ByteArray), .int .i64 1, .int .i64 61, .int .i64 10, .string (⟨#[69, 110, 97, 98, 108, 101, 65, 108, 108, 73, 110, 116, 101, 114, 114, 117, 112, 116, 115]⟩ : ByteArray), .int .i64 0, .int .i64 7, .int .i64 11, .string (⟨#[68, 105, 115, 97, 98, 108, 101, 65, 108, 108, 73, 110, 116, 101, 114, 114, 117, 112, 116, 115]⟩ : ByteArray), .int .i64 0, .int .i64 7, .int .i64 12, .string (⟨#[82, 101, 115, 117, 109, 101, 65, 108, 108, 73, 110, 116, 101, 114, 114, 117, 112, 116, 115]⟩ : ByteArray), .int .i64 0, .int .i64 319, .int .i64 13, .string (⟨#[83, 117, 115, 112, 101, 110, 100, 65, 108, 108, 73, 110, 116, 101, 114, 114, 117, 112, 116, 115]⟩ : ByteArray), .int .i64 0, .int .i64 319, .int .i64 14, .string (⟨#[82, 101, 115, 117, 109, 101, 79, 83, 73, 110, 116, 101, 114, 114, 117, 112, 116, 115]⟩ : ByteArray), .int .i64 0, .int .i64 7, .int .i64 15, .string (⟨#[83, 117, 115, 112, 101, 110, 100, 79, 83, 73, 110, 116, 101, 114, 114, 117, 112, 116, 115]⟩ : ByteArray), .int .i64 0, .int .i64 7, .int .i64 16, .string (⟨#[71, 101, 116, 82, 101, 115, 111, 117, 114, 99, 101]⟩ : ByteArray), .int .i64 1, .int .i64 5, .int .i64 17, .string (⟨#[82, 101, 108, 101, 97, 115, 101, 82, 101, 115, 111, 117, 114, 99, 101]⟩ : ByteArray), .int .i64 1, .int .i64 5, .int .i64 18, .string (⟨#[83, 101, 116, 69, 118, 101, 110, 116]⟩ : ByteArray), .int .i64 2, .int .i64 5, .int .i64 19, .string (⟨#[67, 108, 101, 97, 114, 69, 118, 101, 110, 116]⟩ : ByteArray), .int .i64 1, .int .i64 1, .int .i64 20, .string (⟨#[71, 101, 116, 69, 118, 101, 110, 116]⟩ : ByteArray), .int .i64 1, .int .i64 61, .int .i64 21, .string (⟨#[87, 97, 105, 116, 69, 118, 101, 110, 116]⟩ : ByteArray), .int .i64 1, .int .i64 1, .int .i64 22, .string (⟨#[71, 101, 116, 65, 108, 97, 114, 109, 66, 97, 115, 101]⟩ : ByteArray), .int .i64 1, .int .i64 61, .int .i64 23, .string (⟨#[71, 101, 116, 65, 108, 97, 114, 109]⟩ : ByteArray), .int .i64 1, .int .i64 61, .int .i64 24, .string (⟨#[83, 101, 116, 82, 101, 108, 65, 108, 97, 114, 109]⟩ : ByteArray), .int .i64 3, .int .i64 5, .int .i64 25, .string (⟨#[83, 101, 116, 65, 98, 115, 65, 108, 97, 114, 109]⟩ : ByteArray), .int .i64 3, .int .i64 5, .int .i64 26, .string (⟨#[67, 97, 110, 99, 101, 108, 65, 108, 97, 114, 109]⟩ : ByteArray), .int .i64 1, .int .i64 5, .int .i64 40, .string (⟨#[83, 101, 110, 100, 77, 101, 115, 115, 97, 103, 101]⟩ : ByteArray), .int .i64 2, .int .i64 261, .int .i64 41, .string (⟨#[82, 101, 99, 101, 105, 118, 101, 77, 101, 115, 115, 97, 103, 101]⟩ : ByteArray), .int .i64 1, .int .i64 261, .int .i64 42, .string (⟨#[71, 101, 116, 77, 101, 115, 115, 97, 103, 101, 83, 116, 97, 116, 117, 115]⟩ : ByteArray), .int .i64 1, .int .i64 317, .int .i64 43, .string (⟨#[73, 110, 105, 116, 77, 101, 115, 115, 97, 103, 101]⟩ : ByteArray), .int .i64 2, .int .i64 261, .int .i64 44, .string (⟨#[82, 101, 97, 100, 70, 108, 97, 103]⟩ : ByteArray), .int .i64 1, .int .i64 263, .int .i64 45, .string (⟨#[82, 101, 115, 101, 116, 70, 108, 97, 103]⟩ : ByteArray), .int .i64 1, .int .i64 263]) (ok := fun _ => True) (okp := fun _ => True) ?hr ?hp (fun _ hk => hk) trivial (Below.refl _ _) (Nat.le_refl _) (by simp) ?_; (case hd => rfl); (case hg => rfl); (case hr => first | (go_simp; done) | (go_simp; rfl)); (case hp => exact (Reps.c4 (show Kd.M k56 _ _ _ (⟨1, (⟨#[83, 116, 97, 114, 116, 79, 83]⟩ : ByteArray), 1, 0⟩ : S56) [.int .i64 1, .string (⟨#[83, 116, 97, 114, 116, 79, 83]⟩ : ByteArray), .int .i64 1, .int .i64 0] from (k56_mkM _ _ _ (⟨1, (⟨#[83, 116, 97, 114, 116, 79, 83]⟩ : ByteArray), 1, 0⟩ : S56) )) (Reps.c4 (show Kd.M k56 _ _ _ (⟨2, (⟨#[83, 104, 117, 116, 100, 111, 119, 110, 79, 83]⟩ : ByteArray), 1, 77⟩ : S56) [.int .i64 2, .string (⟨#[83, 104, 117, 116, 100, 111, 119, 110, 79, 83]⟩ : ByteArray), .int .i64 1, .int .i64 77] from (k56_mkM _ _ _ (⟨2, (⟨#[83, 104, 117, 116, 100, 111, 119, 110, 79, 83]⟩ : ByteArray), 1, 77⟩ : S56) )) (Reps.c4 (show Kd.M k56 _ _ _ (⟨3, (⟨#[71, 101, 116, 65, 99, 116, 105, 118, 101, 65, 112, 112, 108, 105, 99, 97, 116, 105, 111, 110, 77, 111, 100, 101]⟩ : ByteArray), 0, 253⟩ : S56) [.int .i64 3, .string (⟨#[71, 101, 116, 65, 99, 116, 105, 118, 101, 65, 112, 112, 108, 105, 99, 97, 116, 105, 111, 110, 77, 111, 100, 101]⟩ : ByteArray), .int .i64 0, .int .i64 253] from (k56_mkM _ _ _ (⟨3, (⟨#[71, 101, 116, 65, 99, 116, 105, 118, 101, 65, 112, 112, 108, 105, 99, 97, 116, 105, 111, 110, 77, 111, 100, 101]⟩ : ByteArray), 0, 253⟩ : S56) )) (Reps.c4 (show Kd.M k56 _ _ _ (⟨4, (⟨#[65, 99, 116, 105, 118, 97, 116, 101, 84, 97, 115, 107]⟩ : ByteArray), 1, 5⟩ : S56) [.int .i64 4, .string (⟨#[65, 99, 116, 105, 118, 97, 116, 101, 84, 97, 115, 107]⟩ : ByteArray), .int .i64 1, .int .i64 5] from (k56_mkM _ _ _ (⟨4, (⟨#[65, 99, 116, 105, 118, 97, 116, 101, 84, 97, 115, 107]⟩ : ByteArray), 1, 5⟩ : S56) )) (Reps.c4 (show Kd.M k56 _ _ _ (⟨5, (⟨#[84, 101, 114, 109, 105, 110, 97, 116, 101, 84, 97, 115, 107]⟩ : ByteArray), 0, 1⟩ : S56) [.int .i64 5, .string (⟨#[84, 101, 114, 109, 105, 110, 97, 116, 101, 84, 97, 115, 107]⟩ : ByteArray), .int .i64 0, .int .i64 1] from (k56_mkM _ _ _ (⟨5, (⟨#[84, 101, 114, 109, 105, 110, 97, 116, 101, 84, 97, 115, 107]⟩ : ByteArray), 0, 1⟩ : S56) )) (Reps.c4 (show Kd.M k56 _ _ _ (⟨6, (⟨#[67, 104, 97, 105, 110, 84, 97, 115, 107]⟩ : ByteArray), 1, 1⟩ : S56) [.int .i64 6, .string (⟨#[67, 104, 97, 105, 110, 84, 97, 115, 107]⟩ : ByteArray), .int .i64 1, .int .i64 1] from (k56_mkM _ _ _ (⟨6, (⟨#[67, 104, 97, 105, 110, 84, 97, 115, 107]⟩ : ByteArray), 1, 1⟩ : S56) )) (Reps.c4 (show Kd.M k56 _ _ _ (⟨7, (⟨#[83, 99, 104, 101, 100, 117, 108, 101]⟩ : ByteArray), 0, 1⟩ : S56) [.int .i64 7, .string (⟨#[83, 99, 104, 101, 100, 117, 108, 101]⟩ : ByteArray), .int .i64 0, .int .i64 1] from (k56_mkM _ _ _ (⟨7, (⟨#[83, 99, 104, 101, 100, 117, 108, 101]⟩ : ByteArray), 0, 1⟩ : S56) )) (Reps.c4 (show Kd.M k56 _ _ _ (⟨8, (⟨#[71, 101, 116, 84, 97, 115, 107, 73, 68]⟩ : ByteArray), 0, 61⟩ : S56) [.int .i64 8, .string (⟨#[71, 101, 116, 84, 97, 115, 107, 73, 68]⟩ : ByteArray), .int .i64 0, .int .i64 61] from (k56_mkM _ _ _ (⟨8, (⟨#[71, 101, 116, 84, 97, 115, 107, 73, 68]⟩ : ByteArray), 0, 61⟩ : S56) )) (Reps.c4 (show Kd.M k56 _ _ _ (⟨9, (⟨#[71, 101, 116, 84, 97, 115, 107, 83, 116, 97, 116, 101]⟩ : ByteArray), 1, 61⟩ : S56) [.int .i64 9, .string (⟨#[71, 101, 116, 84, 97, 115, 107, 83, 116, 97, 116, 101]⟩ : ByteArray), .int .i64 1, .int .i64 61] from (k56_mkM _ _ _ (⟨9, (⟨#[71, 101, 116, 84, 97, 115, 107, 83, 116, 97, 116, 101]⟩ : ByteArray), 1, 61⟩ : S56) )) (Reps.c4 (show Kd.M k56 _ _ _ (⟨10, (⟨#[69, 110, 97, 98, 108, 101, 65, 108, 108, 73, 110, 116, 101, 114, 114, 117, 112, 116, 115]⟩ : ByteArray), 0, 7⟩ : S56) [.int .i64 10, .string (⟨#[69, 110, 97, 98, 108, 101, 65, 108, 108, 73, 110, 116, 101, 114, 114, 117, 112, 116, 115]⟩ : ByteArray), .int .i64 0, .int .i64 7] from (k56_mkM _ _ _ (⟨10, (⟨#[69, 110, 97, 98, 108, 101, 65, 108, 108, 73, 110, 116, 101, 114, 114, 117, 112, 116, 115]⟩ : ByteArray), 0, 7⟩ : S56) )) (Reps.c4 (show Kd.M k56 _ _ _ (⟨11, (⟨#[68, 105, 115, 97, 98, 108, 101, 65, 108, 108, 73, 110, 116, 101, 114, 114, 117, 112, 116, 115]⟩ : ByteArray), 0, 7⟩ : S56) [.int .i64 11, .string (⟨#[68, 105, 115, 97, 98, 108, 101, 65, 108, 108, 73, 110, 116, 101, 114, 114, 117, 112, 116, 115]⟩ : ByteArray), .int .i64 0, .int .i64 7] from (k56_mkM _ _ _ (⟨11, (⟨#[68, 105, 115, 97, 98, 108, 101, 65, 108, 108, 73, 110, 116, 101, 114, 114, 117, 112, 116, 115]⟩ : ByteArray), 0, 7⟩ : S56) )) (Reps.c4 (show Kd.M k56 _ _ _ (⟨12, (⟨#[82, 101, 115, 117, 109, 101, 65, 108, 108, 73, 110, 116, 101, 114, 114, 117, 112, 116, 115]⟩ : ByteArray), 0, 319⟩ : S56) [.int .i64 12, .string (⟨#[82, 101, 115, 117, 109, 101, 65, 108, 108, 73, 110, 116, 101, 114, 114, 117, 112, 116, 115]⟩ : ByteArray), .int .i64 0, .int .i64 319] from (k56_mkM _ _ _ (⟨12, (⟨#[82, 101, 115, 117, 109, 101, 65, 108, 108, 73, 110, 116, 101, 114, 114, 117, 112, 116, 115]⟩ : ByteArray), 0, 319⟩ : S56) )) (Reps.c4 (show Kd.M k56 _ _ _ (⟨13, (⟨#[83, 117, 115, 112, 101, 110, 100, 65, 108, 108, 73, 110, 116, 101, 114, 114, 117, 112, 116, 115]⟩ : ByteArray), 0, 319⟩ : S56) [.int .i64 13, .string (⟨#[83, 117, 115, 112, 101, 110, 100, 65, 108, 108, 73, 110, 116, 101, 114, 114, 117, 112, 116, 115]⟩ : ByteArray), .int .i64 0, .int .i64 319] from (k56_mkM _ _ _ (⟨13, (⟨#[83, 117, 115, 112, 101, 110, 100, 65, 108, 108, 73, 110, 116, 101, 114, 114, 117, 112, 116, 115]⟩ : ByteArray), 0, 319⟩ : S56) )) (Reps.c4 (show Kd.M k56 _ _ _ (⟨14, (⟨#[82, 101, 115, 117, 109, 101, 79, 83, 73, 110, 116, 101, 114, 114, 117, 112, 116, 115]⟩ : ByteArray), 0, 7⟩ : S56) [.int .i64 14, .string (⟨#[82, 101, 115, 117, 109, 101, 79, 83, 73, 110, 116, 101, 114, 114, 117, 112, 116, 115]⟩ : ByteArray), .int .i64 0, .int .i64 7] from (k56_mkM _ _ _ (⟨14, (⟨#[82, 101, 115, 117, 109, 101, 79, 83, 73, 110, 116, 101, 114, 114, 117, 112, 116, 115]⟩ : ByteArray), 0, 7⟩ : S56) )) (Reps.c4 (show Kd.M k56 _ _ _ (⟨15, (⟨#[83, 117, 115, 112, 101, 110, 100, 79, 83, 73, 110, 116, 101, 114, 114, 117, 112, 116, 115]⟩ : ByteArray), 0, 7⟩ : S56) [.int .i64 15, .string (⟨#[83, 117, 115, 112, 101, 110, 100, 79, 83, 73, 110, 116, 101, 114, 114, 117, 112, 116, 115]⟩ : ByteArray), .int .i64 0, .int .i64 7] from (k56_mkM _ _ _ (⟨15, (⟨#[83, 117, 115, 112, 101, 110, 100, 79, 83, 73, 110, 116, 101, 114, 114, 117, 112, 116, 115]⟩ : ByteArray), 0, 7⟩ : S56) )) (Reps.c4 (show Kd.M k56 _ _ _ (⟨16, (⟨#[71, 101, 116, 82, 101, 115, 111, 117, 114, 99, 101]⟩ : ByteArray), 1, 5⟩ : S56) [.int .i64 16, .string (⟨#[71, 101, 116, 82, 101, 115, 111, 117, 114, 99, 101]⟩ : ByteArray), .int .i64 1, .int .i64 5] from (k56_mkM _ _ _ (⟨16, (⟨#[71, 101, 116, 82, 101, 115, 111, 117, 114, 99, 101]⟩ : ByteArray), 1, 5⟩ : S56) )) (Reps.c4 (show Kd.M k56 _ _ _ (⟨17, (⟨#[82, 101, 108, 101, 97, 115, 101, 82, 101, 115, 111, 117, 114, 99, 101]⟩ : ByteArray), 1, 5⟩ : S56) [.int .i64 17, .string (⟨#[82, 101, 108, 101, 97, 115, 101, 82, 101, 115, 111, 117, 114, 99, 101]⟩ : ByteArray), .int .i64 1, .int .i64 5] from (k56_mkM _ _ _ (⟨17, (⟨#[82, 101, 108, 101, 97, 115, 101, 82, 101, 115, 111, 117, 114, 99, 101]⟩ : ByteArray), 1, 5⟩ : S56) )) (Reps.c4 (show Kd.M k56 _ _ _ (⟨18, (⟨#[83, 101, 116, 69, 118, 101, 110, 116]⟩ : ByteArray), 2, 5⟩ : S56) [.int .i64 18, .string (⟨#[83, 101, 116, 69, 118, 101, 110, 116]⟩ : ByteArray), .int .i64 2, .int .i64 5] from (k56_mkM _ _ _ (⟨18, (⟨#[83, 101, 116, 69, 118, 101, 110, 116]⟩ : ByteArray), 2, 5⟩ : S56) )) (Reps.c4 (show Kd.M k56 _ _ _ (⟨19, (⟨#[67, 108, 101, 97, 114, 69, 118, 101, 110, 116]⟩ : ByteArray), 1, 1⟩ : S56) [.int .i64 19, .string (⟨#[67, 108, 101, 97, 114, 69, 118, 101, 110, 116]⟩ : ByteArray), .int .i64 1, .int .i64 1] from (k56_mkM _ _ _ (⟨19, (⟨#[67, 108, 101, 97, 114, 69, 118, 101, 110, 116]⟩ : ByteArray), 1, 1⟩ : S56) )) (Reps.c4 (show Kd.M k56 _ _ _ (⟨20, (⟨#[71, 101, 116, 69, 118, 101, 110, 116]⟩ : ByteArray), 1, 61⟩ : S56) [.int .i64 20, .string (⟨#[71, 101, 116, 69, 118, 101, 110, 116]⟩ : ByteArray), .int .i64 1, .int .i64 61] from (k56_mkM _ _ _ (⟨20, (⟨#[71, 101, 116, 69, 118, 101, 110, 116]⟩ : ByteArray), 1, 61⟩ : S56) )) (Reps.c4 (show Kd.M k56 _ _ _ (⟨21, (⟨#[87, 97, 105, 116, 69, 118, 101, 110, 116]⟩ : ByteArray), 1, 1⟩ : S56) [.int .i64 21, .string (⟨#[87, 97, 105, 116, 69, 118, 101, 110, 116]⟩ : ByteArray), .int .i64 1, .int .i64 1] from (k56_mkM _ _ _ (⟨21, (⟨#[87, 97, 105, 116, 69, 118, 101, 110, 116]⟩ : ByteArray), 1, 1⟩ : S56) )) (Reps.c4 (show Kd.M k56 _ _ _ (⟨22, (⟨#[71, 101, 116, 65, 108, 97, 114, 109, 66, 97, 115, 101]⟩ : ByteArray), 1, 61⟩ : S56) [.int .i64 22, .string (⟨#[71, 101, 116, 65, 108, 97, 114, 109, 66, 97, 115, 101]⟩ : ByteArray), .int .i64 1, .int .i64 61] from (k56_mkM _ _ _ (⟨22, (⟨#[71, 101, 116, 65, 108, 97, 114, 109, 66, 97, 115, 101]⟩ : ByteArray), 1, 61⟩ : S56) )) (Reps.c4 (show Kd.M k56 _ _ _ (⟨23, (⟨#[71, 101, 116, 65, 108, 97, 114, 109]⟩ : ByteArray), 1, 61⟩ : S56) [.int .i64 23, .string (⟨#[71, 101, 116, 65, 108, 97, 114, 109]⟩ : ByteArray), .int .i64 1, .int .i64 61] from (k56_mkM _ _ _ (⟨23, (⟨#[71, 101, 116, 65, 108, 97, 114, 109]⟩ : ByteArray), 1, 61⟩ : S56) )) (Reps.c4 (show Kd.M k56 _ _ _ (⟨24, (⟨#[83, 101, 116, 82, 101, 108, 65, 108, 97, 114, 109]⟩ : ByteArray), 3, 5⟩ : S56) [.int .i64 24, .string (⟨#[83, 101, 116, 82, 101, 108, 65, 108, 97, 114, 109]⟩ : ByteArray), .int .i64 3, .int .i64 5] from (k56_mkM _ _ _ (⟨24, (⟨#[83, 101, 116, 82, 101, 108, 65, 108, 97, 114, 109]⟩ : ByteArray), 3, 5⟩ : S56) )) (Reps.c4 (show Kd.M k56 _ _ _ (⟨25, (⟨#[83, 101, 116, 65, 98, 115, 65, 108, 97, 114, 109]⟩ : ByteArray), 3, 5⟩ : S56) [.int .i64 25, .string (⟨#[83, 101, 116, 65, 98, 115, 65, 108, 97, 114, 109]⟩ : ByteArray), .int .i64 3, .int .i64 5] from (k56_mkM _ _ _ (⟨25, (⟨#[83, 101, 116, 65, 98, 115, 65, 108, 97, 114, 109]⟩ : ByteArray), 3, 5⟩ : S56) )) (Reps.c4 (show Kd.M k56 _ _ _ (⟨26, (⟨#[67, 97, 110, 99, 101, 108, 65, 108, 97, 114, 109]⟩ : ByteArray), 1, 5⟩ : S56) [.int .i64 26, .string (⟨#[67, 97, 110, 99, 101, 108, 65, 108, 97, 114, 109]⟩ : ByteArray), .int .i64 1, .int .i64 5] from (k56_mkM _ _ _ (⟨26, (⟨#[67, 97, 110, 99, 101, 108, 65, 108, 97, 114, 109]⟩ : ByteArray), 1, 5⟩ : S56) )) (Reps.c4 (show Kd.M k56 _ _ _ (⟨40, (⟨#[83, 101, 110, 100, 77, 101, 115, 115, 97, 103, 101]⟩ : ByteArray), 2, 261⟩ : S56) [.int .i64 40, .string (⟨#[83, 101, 110, 100, 77, 101, 115, 115, 97, 103, 101]⟩ : ByteArray), .int .i64 2, .int .i64 261] from (k56_mkM _ _ _ (⟨40, (⟨#[83, 101, 110, 100, 77, 101, 115, 115, 97, 103, 101]⟩ : ByteArray), 2, 261⟩ : S56) )) (Reps.c4 (show Kd.M k56 _ _ _ (⟨41, (⟨#[82, 101, 99, 101, 105, 118, 101, 77, 101, 115, 115, 97, 103, 101]⟩ : ByteArray), 1, 261⟩ : S56) [.int .i64 41, .string (⟨#[82, 101, 99, 101, 105, 118, 101, 77, 101, 115, 115, 97, 103, 101]⟩ : ByteArray), .int .i64 1, .int .i64 261] from (k56_mkM _ _ _ (⟨41, (⟨#[82, 101, 99, 101, 105, 118, 101, 77, 101, 115, 115, 97, 103, 101]⟩ : ByteArray), 1, 261⟩ : S56) )) (Reps.c4 (show Kd.M k56 _ _ _ (⟨42, (⟨#[71, 101, 116, 77, 101, 115, 115, 97, 103, 101, 83, 116, 97, 116, 117, 115]⟩ : ByteArray), 1, 317⟩ : S56) [.int .i64 42, .string (⟨#[71, 101, 116, 77, 101, 115, 115, 97, 103, 101, 83, 116, 97, 116, 117, 115]⟩ : ByteArray), .int .i64 1, .int .i64 317] from (k56_mkM _ _ _ (⟨42, (⟨#[71, 101, 116, 77, 101, 115, 115, 97, 103, 101, 83, 116, 97, 116, 117, 115]⟩ : ByteArray), 1, 317⟩ : S56) )) (Reps.c4 (show Kd.M k56 _ _ _ (⟨43, (⟨#[73, 110, 105, 116, 77, 101, 115, 115, 97, 103, 101]⟩ : ByteArray), 2, 261⟩ : S56) [.int .i64 43, .string (⟨#[73, 110, 105, 116, 77, 101, 115, 115, 97, 103, 101]⟩ : ByteArray), .int .i64 2, .int .i64 261] from (k56_mkM _ _ _ (⟨43, (⟨#[73, 110, 105, 116, 77, 101, 115, 115, 97, 103, 101]⟩ : ByteArray), 2, 261⟩ : S56) )) (Reps.c4 (show Kd.M k56 _ _ _ (⟨44, (⟨#[82, 101, 97, 100, 70, 108, 97, 103]⟩ : ByteArray), 1, 263⟩ : S56) [.int .i64 44, .string (⟨#[82, 101, 97, 100, 70, 108, 97, 103]⟩ : ByteArray), .int .i64 1, .int .i64 263] from (k56_mkM _ _ _ (⟨44, (⟨#[82, 101, 97, 100, 70, 108, 97, 103]⟩ : ByteArray), 1, 263⟩ : S56) )) (Reps.c4 (show Kd.M k56 _ _ _ (⟨45, (⟨#[82, 101, 115, 101, 116, 70, 108, 97, 103]⟩ : ByteArray), 1, 263⟩ : S56) [.int .i64 45, .string (⟨#[82, 101, 115, 101, 116, 70, 108, 97, 103]⟩ : ByteArray), .int .i64 1, .int .i64 263] from (k56_mkM _ _ _ (⟨45, (⟨#[82, 101, 115, 101, 116, 70, 108, 97, 103]⟩ : ByteArray), 1, 263⟩ : S56) )) (Reps.none _ _)))))))))))))))))))))))))))))))))); intro v111 w1 ho2 hb hg_ hnew_; clear hg_ hnew_; (first | rw [← Ny110.out] at ho2 | (simp only [Int.reduceToNat] at ho2; rw [← Ny110.out] at ho2)); have n0_ := Aside0.mk (Kd.R_lower ho2 (below_size (by repeat (first | (with_reducible first | exact HB.out | apply below_alloc | apply pw_below_drewN | apply below_drew1) | exact HB.out)))); have n1_ := Aside0.mk (below_step (by repeat (first | (with_reducible first | exact HB.out | apply below_alloc | apply pw_below_drewN | apply below_drew1) | exact HB.out)) hb); clear HB; have HO112 := n0_; have HB := n1_; clear n0_ n1_; clear hb ho2))
  go_ret
  exact ⟨_, by first | rfl | (simp [errW_none, errW_some] <;> rfl) | (simp [*, errW_none, errW_some] <;> rfl), by (with_reducible repeat (first | apply Kd.R_alloc | apply Kd.R_drewN | apply Kd.R_drew)); exact HO112.out, by repeat (first | (with_reducible first | exact HB.out | apply below_alloc | apply pw_below_drewN | apply below_drew1) | exact HB.out)⟩

/-! ### level_find: function 28 -/
def level_find.l0 : Nat → Int → List (S56) → Int → Int → Option (Int × ByteArray × Int × Int × Bool)
  | 0, _, _, _, _ => none
  | k + 1, x0, x6, x7, x8 => if x8 < x7 then (if 0 ≤ x8 then (if x8 < (x6.length : Int) then (if ((rd_T56 x6 x8).f0) = x0 then (some ((rd_T56 x6 x8).f0, (rd_T56 x6 x8).f1, (rd_T56 x6 x8).f2, (rd_T56 x6 x8).f3, true)) else (level_find.l0 k x0 x6 x7 (wrap64 (x8 + 1)))) else (none)) else (none)) else (some (0, (⟨#[]⟩ : ByteArray), (-1), 0, false))
def level_find.f (k : Nat) (a0 : Int) : Option (Int × ByteArray × Int × Int × Bool) := (level_services.f).bind fun t114 => (level_find.l0 k a0 t114 (t114.length : Int) 0)
theorem level_find.mono_l : ∀ k, (∀ y0 y1 y2 y3, LeO (level_find.l0 k y0 y1 y2 y3) (level_find.l0 (k + 1) y0 y1 y2 y3))
  | 0 => fun _ _ _ _ r h => by simp [level_find.l0] at h
  | k + 1 => by
    have ih0 := level_find.mono_l k
    · intro y0 y1 y2 y3
      unfold level_find.l0
      repeat' first
      | (with_reducible exact ih0 _ _ _ _)
      | (with_reducible exact LeO.refl _)
      | (with_reducible exact LeO.none _)
      | (with_reducible refine LeO.ite ?_ ?_)
      | (with_reducible refine LeO.bind ?_ (fun _ => ?_))
      | exact ih0 _ _ _ _
      | exact LeO.none _
      | refine LeO.ite ?_ ?_
      | refine LeO.bind ?_ (fun _ => ?_)
theorem level_find.mono : ∀ a0 k, LeO (level_find.f k a0) (level_find.f (k + 1) a0) := by
  intro a0 k
  have ih0 := level_find.mono_l k
  unfold level_find.f
  repeat' first
      | (with_reducible exact ih0 _ _ _ _)
      | (with_reducible exact LeO.refl _)
      | (with_reducible exact LeO.none _)
      | (with_reducible refine LeO.ite ?_ ?_)
      | (with_reducible refine LeO.bind ?_ (fun _ => ?_))
      | exact ih0 _ _ _ _
      | exact LeO.none _
      | refine LeO.ite ?_ ?_
      | refine LeO.bind ?_ (fun _ => ?_)
set_option maxHeartbeats 8000000 in
set_option maxRecDepth 100000 in
theorem level_find.calls (k : Nat) (a0 : Int) (r1 : Int) (r2 : ByteArray) (r3 : Int) (r4 : Int) (r5 : Bool) (w : World) (h : level_find.f k a0 = some (r1, r2, r3, r4, r5)) :
    Calls Try.prog 28 #[.int .i64 a0] w fun e w' => e = .returned (.tuple #[.agg #[.int .i64 r1, .string r2, .int .i64 r3, .int .i64 r4], .bool r5]) ∧ Below w.heap.size w w' := by
  have hu56 := Try.underlying56
  have HB := Aside0.mk (Below.refl w.heap.size w)
  have H : ((level_services.f).bind fun t114 => (level_find.l0 k a0 t114 (t114.length : Int) 0)) = some (r1, r2, r3, r4, r5) := h
  clear h
  replace H := Option.bind_eq_some_iff.mp H
  obtain ⟨t114, A20, H⟩ := H
  replace H : (level_find.l0 k a0 t114 (t114.length : Int) 0) = some (r1, r2, r3, r4, r5) := H
  have A2 := Aside0.mk A20
  clear A20
  have H' := Aside0.mk H
  clear H
  go_enter Try.func28, Try.ntmps28
  go_wp2_with (first | ((with_reducible refine gate_dst (N := 2) rfl ?_); refine box_event ?hg (N := 2) ?hd (cs := #[.int .i64 0, .string (⟨#[]⟩ : ByteArray), .int .i64 0, .int .i64 0]) (t := 56) ?hr ?_; (case hd => rfl); (case hg => rfl); (case hr => first | (go_simp; done) | (go_simp; rfl)); intro gb113 hg w3 hbox hb; have n0_ := Aside0.mk (below_step (by repeat (first | (with_reducible first | exact HB.out | apply below_alloc | apply pw_below_drewN | apply below_drew1) | exact HB.out)) hb); have n1_ := Aside0.mk (hbox); have n2_ := Aside0.mk ((by rw [hg]; exact (below_size (by repeat (first | (with_reducible first | exact HB.out | apply below_alloc | apply pw_below_drewN | apply below_drew1) | exact HB.out))) : w.heap.size ≤ gb113)); have n3_ := Aside0.mk ((by rw [hg]; exact (below_size (by repeat (first | (with_reducible first | exact HB.out | apply below_alloc | apply pw_below_drewN | apply below_drew1) | exact HB.out))) : w.heap.size ≤ gb113)); clear HB; have HB := n0_; have BK113 := n1_; have GW113 := n2_; have GE113 := n3_; clear n0_ n1_ n2_ n3_; clear hb hbox hg) | ((with_reducible refine gate_callee (f := 30) rfl ?_); refine goesL_ (some 6) rfl rfl Try.func30 (by kernel_rfl) rfl #[] rfl (by (try simp only [List.map_toArray, List.map_cons, List.map_nil]); first | done | rfl | (simp only [List.length_drop, List.length_take]; rfl)) ?_; (with_reducible refine (level_services.calls  t114 _ A2.out).mono ?_); rintro e w4 ⟨v115, rfl, ho0, hb⟩; refine ⟨_, rfl, ?_⟩; have n0_ := Aside0.mk (Kd.R_lower (Kd.R_newB ho0 (g := gb113) (o := .cells #[.int .i64 0, .string (⟨#[]⟩ : ByteArray), .int .i64 0, .int .i64 0] 56 (0, 0)) (by (with_reducible repeat (first | refine blk_drewN ?_ _ | refine blk_drew ?_ | refine blk_alloc ?_ _)); exact BK113.out)) (below_size (by repeat (first | (with_reducible first | exact HB.out | apply below_alloc | apply pw_below_drewN | apply below_drew1 | refine below_set ?_ GE113.out) | exact HB.out)))); have n1_ := Aside0.mk (blk_below (g := gb113) (o := .cells #[.int .i64 0, .string (⟨#[]⟩ : ByteArray), .int .i64 0, .int .i64 0] 56 (0, 0)) (by (with_reducible repeat (first | refine blk_drewN ?_ _ | refine blk_drew ?_ | refine blk_alloc ?_ _)); exact BK113.out) hb); have n2_ := Aside0.mk (below_step (by repeat (first | (with_reducible first | exact HB.out | apply below_alloc | apply pw_below_drewN | apply below_drew1 | refine below_set ?_ GE113.out) | exact HB.out)) hb); clear BK113; clear HB; have HO116 := n0_; have BK113 := n1_; have HB := n2_; clear n0_ n1_ n2_; (try clear hb); (try clear hb2); (try clear hk); (try clear hi); (try clear ho0); obtain ⟨Ao5, co5, eo5⟩ := Kd.R_slice HO116.out; subst eo5))
  go_loopg [8] k (fun kq v8 w' => ∃ (x8_1 : Int) (x114000_1 : Int) (x114001_1 : ByteArray) (x114002_1 : Int) (x114003_1 : Int), v8 = .int .i64 x8_1 ∧ Aside0 (level_find.l0 kq a0 t114 (t114.length : Int) x8_1 = some (r1, r2, r3, r4, r5)) ∧ Aside0 (kq ≤ k) ∧ Aside0 (Kd.R k56 56 w' w.heap.size (fun k_ => k_ ≠ gb113) (.slice Ao5 t114.length co5) t114) ∧ Aside0 (w'.heap[gb113]? = some (.cells #[.int .i64 x114000_1, .string x114001_1, .int .i64 x114002_1, .int .i64 x114003_1] 56 (0, 0))) ∧ Aside0 (Below w.heap.size w w'))
  case atStart => exact ⟨(0), (0), ((⟨#[]⟩ : ByteArray)), (0), (0), (by first | rfl | (simp; done) | (simp [*]; done)), H', ⟨Nat.le_refl _⟩, ⟨by (with_reducible repeat (first | apply Kd.R_alloc | apply Kd.R_drewN | apply Kd.R_drew)); exact Kd.R_mono HO116.out (fun _ hk => hk.2)⟩, ⟨by (with_reducible repeat (first | refine blk_drewN ?_ _ | refine blk_drew ?_ | refine blk_alloc ?_ _)); exact BK113.out⟩, ⟨by repeat (first | (with_reducible first | exact HB.out | apply below_alloc | apply pw_below_drewN | apply below_drew1 | refine below_set ?_ GE113.out) | exact HB.out)⟩⟩
  case round =>
    clear H'
    try clear c2
    try clear p2
    try clear c3
    obtain ⟨x8_1, x114000_1, x114001_1, x114002_1, x114003_1, rfl, HA, HK1, HO_6, BK113, HB⟩ := hrel
    cases gk with
    | zero => exact absurd HA.out (by simp [level_find.l0])
    | succ k1 =>
      have H := HA.out
      clear HA
      simp only [level_find.l0] at H
      by_cases c6 : x8_1 < (t114.length : Int)
      · rw [if_pos c6] at H
        have c6b0 : decide (x8_1 < (t114.length : Int)) = true := decide_eq_true c6
        clear c6
        by_cases c7 : 0 ≤ x8_1
        · rw [if_pos c7] at H
          have c7b0 : decide (0 ≤ x8_1) = true := decide_eq_true c7
          clear c7
          by_cases c8 : x8_1 < (t114.length : Int)
          · rw [if_pos c8] at H
            have c8b0 : decide (x8_1 < (t114.length : Int)) = true := decide_eq_true c8
            clear c8
            by_cases c9 : ((rd_T56 t114 x8_1).f0) = a0
            · rw [if_pos c9] at H
              have c9b0 : (((rd_T56 t114 x8_1).f0) == a0) = true := beq_iff_eq.mpr c9
              have c9b1 : (((rd_T56 t114 x8_1).f0) != a0) = false := bne_eq_false_iff_eq.mpr c9
              clear c9
              simp only [Option.some.injEq, Prod.mk.injEq] at H
              obtain ⟨rfl, rfl, rfl, rfl, rfl⟩ := H
              have p117 : 0 ≤ (x8_1 : Int) := of_decide_eq_true (by first | (with_reducible assumption) | assumption)
              have q117 : x8_1 < (t114.length : Int) := of_decide_eq_true (by first | (with_reducible assumption) | assumption)
              obtain ⟨ad117, e117, hx117_0, hx117_1, hx117_2, hx117_3⟩ := at_T56 (Kd.R_reads' HO_6.out).2.2 x8_1 p117 q117
              cases e117
              replace p117 := eq_true p117
              replace q117 := eq_true q117
              go_wp2_with (first | ((with_reducible refine gate_dst (N := 5) rfl ?_); refine box_event ?hg (N := 5) ?hd (cs := #[.int .i64 0, .string (⟨#[]⟩ : ByteArray), .int .i64 0, .int .i64 0]) (t := 56) ?hr ?_; (case hd => rfl); (case hg => rfl); (case hr => first | (go_simp; done) | (go_simp; rfl)); intro gb118 hg w10 hbox hb; have n0_ := Aside0.mk (Kd.R_below (Kd.R_elderB (by (with_reducible repeat (first | apply Kd.R_alloc | apply Kd.R_drewN | apply Kd.R_drew)); exact HO_6.out) gb118 (Nat.le_of_eq hg.symm)) hb); have n1_ := Aside0.mk (blk_below (g := gb113) (o := .cells #[.int .i64 x114000_1, .string x114001_1, .int .i64 x114002_1, .int .i64 x114003_1] 56 (0, 0)) (by (with_reducible repeat (first | refine blk_drewN ?_ _ | refine blk_drew ?_ | refine blk_alloc ?_ _)); exact BK113.out) hb); have n2_ := Aside0.mk (below_step (by repeat (first | (with_reducible first | exact HB.out | apply below_alloc | apply pw_below_drewN | apply below_drew1 | refine below_set ?_ GE113.out) | exact HB.out)) hb); have n3_ := Aside0.mk (hbox); have n4_ := Aside0.mk ((by rw [hg]; exact (below_size (by repeat (first | (with_reducible first | exact HB.out | apply below_alloc | apply pw_below_drewN | apply below_drew1 | refine below_set ?_ GE113.out) | exact HB.out))) : w.heap.size ≤ gb118)); have n5_ := Aside0.mk ((by rw [hg]; exact (below_size (by repeat (first | (with_reducible first | exact HB.out | apply below_alloc | apply pw_below_drewN | apply below_drew1 | refine below_set ?_ GE113.out) | exact HB.out))) : w.heap.size ≤ gb118)); have n6_ := Aside0.mk ((by rw [hg]; exact Nat.ne_of_lt (blk_lt (g := gb113) (o := .cells #[.int .i64 x114000_1, .string x114001_1, .int .i64 x114002_1, .int .i64 x114003_1] 56 (0, 0)) (by (with_reducible repeat (first | refine blk_drewN ?_ _ | refine blk_drew ?_ | refine blk_alloc ?_ _)); exact BK113.out)) : gb113 ≠ gb118)); have n7_ := Aside0.mk ((by rw [hg]; exact Nat.ne_of_gt (blk_lt (g := gb113) (o := .cells #[.int .i64 x114000_1, .string x114001_1, .int .i64 x114002_1, .int .i64 x114003_1] 56 (0, 0)) (by (with_reducible repeat (first | refine blk_drewN ?_ _ | refine blk_drew ?_ | refine blk_alloc ?_ _)); exact BK113.out)) : gb118 ≠ gb113)); clear HO_6; clear BK113; clear HB; have HO_6 := n0_; have BK113 := n1_; have HB := n2_; have BK118 := n3_; have GW118 := n4_; have GE118 := n5_; have NB113_118 := n6_; have NB118_113 := n7_; clear n0_ n1_ n2_ n3_ n4_ n5_ n6_ n7_; clear hb hbox hg; have hnb11 := NB118_113.out; have hnc11 := NB113_118.out; have hcz12_0 : w10.cell? ⟨gb118, 0, none⟩ = some (.int .i64 0) := (blk_cell BK118.out 0).trans rfl; have hcz12_1 : w10.cell? ⟨gb118, 1, none⟩ = some (.string (⟨#[]⟩ : ByteArray)) := (blk_cell BK118.out 1).trans rfl; have hcz12_2 : w10.cell? ⟨gb118, 2, none⟩ = some (.int .i64 0) := (blk_cell BK118.out 2).trans rfl; have hcz12_3 : w10.cell? ⟨gb118, 3, none⟩ = some (.int .i64 0) := (blk_cell BK118.out 3).trans rfl; have hfz12_0 := blk_frozen BK118.out 0; have hfz12_1 := blk_frozen BK118.out 1; have hfz12_2 := blk_frozen BK118.out 2; have hfz12_3 := blk_frozen BK118.out 3; have hcz13_0 : w10.cell? ⟨gb113, 0, none⟩ = some (.int .i64 x114000_1) := (blk_cell BK113.out 0).trans rfl; have hcz13_1 : w10.cell? ⟨gb113, 1, none⟩ = some (.string x114001_1) := (blk_cell BK113.out 1).trans rfl; have hcz13_2 : w10.cell? ⟨gb113, 2, none⟩ = some (.int .i64 x114002_1) := (blk_cell BK113.out 2).trans rfl; have hcz13_3 : w10.cell? ⟨gb113, 3, none⟩ = some (.int .i64 x114003_1) := (blk_cell BK113.out 3).trans rfl; have hfz13_0 := blk_frozen BK113.out 0; have hfz13_1 := blk_frozen BK113.out 1; have hfz13_2 := blk_frozen BK113.out 2; have hfz13_3 := blk_frozen BK113.out 3))
              refine bodyPost_ret (results_ct rfl _ _ gb113 56 #[.int .i64 ((rd_T56 t114 x8_1).f0), .string ((rd_T56 t114 x8_1).f1), .int .i64 ((rd_T56 t114 x8_1).f2), .int .i64 ((rd_T56 t114 x8_1).f3)] (0, 0) _ rfl (by (with_reducible repeat (first | refine blk_drewN ?_ _ | refine blk_drew ?_ | refine blk_alloc ?_ _)); refine blk_put (cs := #[.int .i64 ((rd_T56 t114 x8_1).f0), .string ((rd_T56 t114 x8_1).f1), .int .i64 ((rd_T56 t114 x8_1).f2), .int .i64 x114003_1]) ?_ 3 _ rfl; (with_reducible repeat (first | refine blk_drewN ?_ _ | refine blk_drew ?_ | refine blk_alloc ?_ _)); refine blk_put (cs := #[.int .i64 ((rd_T56 t114 x8_1).f0), .string ((rd_T56 t114 x8_1).f1), .int .i64 x114002_1, .int .i64 x114003_1]) ?_ 2 _ rfl; (with_reducible repeat (first | refine blk_drewN ?_ _ | refine blk_drew ?_ | refine blk_alloc ?_ _)); refine blk_put (cs := #[.int .i64 ((rd_T56 t114 x8_1).f0), .string x114001_1, .int .i64 x114002_1, .int .i64 x114003_1]) ?_ 1 _ rfl; (with_reducible repeat (first | refine blk_drewN ?_ _ | refine blk_drew ?_ | refine blk_alloc ?_ _)); refine blk_put (cs := #[.int .i64 x114000_1, .string x114001_1, .int .i64 x114002_1, .int .i64 x114003_1]) ?_ 0 _ rfl; (with_reducible repeat (first | refine blk_drewN ?_ _ | refine blk_drew ?_ | refine blk_alloc ?_ _)); refine blk_far ?_ NB113_118.out _; (with_reducible repeat (first | refine blk_drewN ?_ _ | refine blk_drew ?_ | refine blk_alloc ?_ _)); refine blk_far ?_ NB113_118.out _; (with_reducible repeat (first | refine blk_drewN ?_ _ | refine blk_drew ?_ | refine blk_alloc ?_ _)); refine blk_far ?_ NB113_118.out _; (with_reducible repeat (first | refine blk_drewN ?_ _ | refine blk_drew ?_ | refine blk_alloc ?_ _)); refine blk_far ?_ NB113_118.out _; (with_reducible repeat (first | refine blk_drewN ?_ _ | refine blk_drew ?_ | refine blk_alloc ?_ _)); exact BK113.out) Try.underlying56 rfl (by kernel_rfl)) rfl ?_
              exact ⟨by first | rfl | (simp [errW_none, errW_some] <;> rfl) | (simp [*, errW_none, errW_some] <;> rfl), by repeat (first | (with_reducible first | exact HB.out | apply below_alloc | apply pw_below_drewN | apply below_drew1 | refine below_set ?_ GE113.out | refine below_set ?_ GE118.out) | exact HB.out)⟩
            · rw [if_neg c9] at H
              have c9b0 : (((rd_T56 t114 x8_1).f0) == a0) = false := beq_eq_false_iff_ne.mpr c9
              have c9b1 : (((rd_T56 t114 x8_1).f0) != a0) = true := bne_iff_ne.mpr c9
              have H' := Aside0.mk H
              clear H
              have p117 : 0 ≤ (x8_1 : Int) := of_decide_eq_true (by first | (with_reducible assumption) | assumption)
              have q117 : x8_1 < (t114.length : Int) := of_decide_eq_true (by first | (with_reducible assumption) | assumption)
              obtain ⟨ad117, e117, hx117_0, hx117_1, hx117_2, hx117_3⟩ := at_T56 (Kd.R_reads' HO_6.out).2.2 x8_1 p117 q117
              cases e117
              replace p117 := eq_true p117
              replace q117 := eq_true q117
              go_wp2_with (first | ((with_reducible refine gate_dst (N := 5) rfl ?_); refine box_event ?hg (N := 5) ?hd (cs := #[.int .i64 0, .string (⟨#[]⟩ : ByteArray), .int .i64 0, .int .i64 0]) (t := 56) ?hr ?_; (case hd => rfl); (case hg => rfl); (case hr => first | (go_simp; done) | (go_simp; rfl)); intro gb118 hg w14 hbox hb; have n0_ := Aside0.mk (Kd.R_below (Kd.R_elderB (by (with_reducible repeat (first | apply Kd.R_alloc | apply Kd.R_drewN | apply Kd.R_drew)); exact HO_6.out) gb118 (Nat.le_of_eq hg.symm)) hb); have n1_ := Aside0.mk (blk_below (g := gb113) (o := .cells #[.int .i64 x114000_1, .string x114001_1, .int .i64 x114002_1, .int .i64 x114003_1] 56 (0, 0)) (by (with_reducible repeat (first | refine blk_drewN ?_ _ | refine blk_drew ?_ | refine blk_alloc ?_ _)); exact BK113.out) hb); have n2_ := Aside0.mk (below_step (by repeat (first | (with_reducible first | exact HB.out | apply below_alloc | apply pw_below_drewN | apply below_drew1 | refine below_set ?_ GE113.out) | exact HB.out)) hb); have n3_ := Aside0.mk (hbox); have n4_ := Aside0.mk ((by rw [hg]; exact (below_size (by repeat (first | (with_reducible first | exact HB.out | apply below_alloc | apply pw_below_drewN | apply below_drew1 | refine below_set ?_ GE113.out) | exact HB.out))) : w.heap.size ≤ gb118)); have n5_ := Aside0.mk ((by rw [hg]; exact (below_size (by repeat (first | (with_reducible first | exact HB.out | apply below_alloc | apply pw_below_drewN | apply below_drew1 | refine below_set ?_ GE113.out) | exact HB.out))) : w.heap.size ≤ gb118)); have n6_ := Aside0.mk ((by rw [hg]; exact Nat.ne_of_lt (blk_lt (g := gb113) (o := .cells #[.int .i64 x114000_1, .string x114001_1, .int .i64 x114002_1, .int .i64 x114003_1] 56 (0, 0)) (by (with_reducible repeat (first | refine blk_drewN ?_ _ | refine blk_drew ?_ | refine blk_alloc ?_ _)); exact BK113.out)) : gb113 ≠ gb118)); have n7_ := Aside0.mk ((by rw [hg]; exact Nat.ne_of_gt (blk_lt (g := gb113) (o := .cells #[.int .i64 x114000_1, .string x114001_1, .int .i64 x114002_1, .int .i64 x114003_1] 56 (0, 0)) (by (with_reducible repeat (first | refine blk_drewN ?_ _ | refine blk_drew ?_ | refine blk_alloc ?_ _)); exact BK113.out)) : gb118 ≠ gb113)); clear HO_6; clear BK113; clear HB; have HO_6 := n0_; have BK113 := n1_; have HB := n2_; have BK118 := n3_; have GW118 := n4_; have GE118 := n5_; have NB113_118 := n6_; have NB118_113 := n7_; clear n0_ n1_ n2_ n3_ n4_ n5_ n6_ n7_; clear hb hbox hg; have hnb15 := NB118_113.out; have hnc15 := NB113_118.out; have hcz16_0 : w14.cell? ⟨gb118, 0, none⟩ = some (.int .i64 0) := (blk_cell BK118.out 0).trans rfl; have hcz16_1 : w14.cell? ⟨gb118, 1, none⟩ = some (.string (⟨#[]⟩ : ByteArray)) := (blk_cell BK118.out 1).trans rfl; have hcz16_2 : w14.cell? ⟨gb118, 2, none⟩ = some (.int .i64 0) := (blk_cell BK118.out 2).trans rfl; have hcz16_3 : w14.cell? ⟨gb118, 3, none⟩ = some (.int .i64 0) := (blk_cell BK118.out 3).trans rfl; have hfz16_0 := blk_frozen BK118.out 0; have hfz16_1 := blk_frozen BK118.out 1; have hfz16_2 := blk_frozen BK118.out 2; have hfz16_3 := blk_frozen BK118.out 3))
              go_roundg k1
              case measure => have := HK1.out; omega
              case rel => exact ⟨(wrap64 (x8_1 + 1)), (x114000_1), (x114001_1), (x114002_1), (x114003_1), (by first | rfl | (simp; done) | (simp [*]; done)), H', ⟨by have := HK1.out; omega⟩, ⟨by (with_reducible repeat (first | apply Kd.R_alloc | apply Kd.R_drewN | apply Kd.R_drew)); exact Kd.R_mono (Kd.R_far (p := ⟨gb118, 3, none⟩) (Kd.R_far (p := ⟨gb118, 2, none⟩) (Kd.R_far (p := ⟨gb118, 1, none⟩) (Kd.R_far (p := ⟨gb118, 0, none⟩) (Kd.R_mono HO_6.out (fun k_ hk => (⟨hk, hk.2⟩ : _ ∧ k_ ≠ gb118))) (fun _ hk => hk.2) (.int .i64 ((rd_T56 t114 x8_1).f0))) (fun _ hk => hk.2) (.string ((rd_T56 t114 x8_1).f1))) (fun _ hk => hk.2) (.int .i64 ((rd_T56 t114 x8_1).f2))) (fun _ hk => hk.2) (.int .i64 ((rd_T56 t114 x8_1).f3))) (fun _ hk => hk.1.1)⟩, ⟨by (with_reducible repeat (first | refine blk_drewN ?_ _ | refine blk_drew ?_ | refine blk_alloc ?_ _)); refine blk_far ?_ NB113_118.out _; (with_reducible repeat (first | refine blk_drewN ?_ _ | refine blk_drew ?_ | refine blk_alloc ?_ _)); refine blk_far ?_ NB113_118.out _; (with_reducible repeat (first | refine blk_drewN ?_ _ | refine blk_drew ?_ | refine blk_alloc ?_ _)); refine blk_far ?_ NB113_118.out _; (with_reducible repeat (first | refine blk_drewN ?_ _ | refine blk_drew ?_ | refine blk_alloc ?_ _)); refine blk_far ?_ NB113_118.out _; (with_reducible repeat (first | refine blk_drewN ?_ _ | refine blk_drew ?_ | refine blk_alloc ?_ _)); exact BK113.out⟩, ⟨by repeat (first | (with_reducible first | exact HB.out | apply below_alloc | apply pw_below_drewN | apply below_drew1 | refine below_set ?_ GE113.out | refine below_set ?_ GE118.out) | exact HB.out)⟩⟩
          · rw [if_neg c8] at H
            exact absurd H (by simp)
        · rw [if_neg c7] at H
          exact absurd H (by simp)
      · rw [if_neg c6] at H
        have c6b0 : decide (x8_1 < (t114.length : Int)) = false := decide_eq_false c6
        clear c6
        simp only [Option.some.injEq, Prod.mk.injEq] at H
        obtain ⟨rfl, rfl, rfl, rfl, rfl⟩ := H
        have hcz17_0 : wr.cell? ⟨gb113, 0, none⟩ = some (.int .i64 x114000_1) := (blk_cell BK113.out 0).trans rfl
        have hcz17_1 : wr.cell? ⟨gb113, 1, none⟩ = some (.string x114001_1) := (blk_cell BK113.out 1).trans rfl
        have hcz17_2 : wr.cell? ⟨gb113, 2, none⟩ = some (.int .i64 x114002_1) := (blk_cell BK113.out 2).trans rfl
        have hcz17_3 : wr.cell? ⟨gb113, 3, none⟩ = some (.int .i64 x114003_1) := (blk_cell BK113.out 3).trans rfl
        have hfz17_0 := blk_frozen BK113.out 0
        have hfz17_1 := blk_frozen BK113.out 1
        have hfz17_2 := blk_frozen BK113.out 2
        have hfz17_3 := blk_frozen BK113.out 3
        go_wp2
        refine bodyPost_ret (results_ct rfl _ _ gb113 56 #[.int .i64 0, .string (⟨#[]⟩ : ByteArray), .int .i64 (-1), .int .i64 0] (0, 0) _ rfl (by (with_reducible repeat (first | refine blk_drewN ?_ _ | refine blk_drew ?_ | refine blk_alloc ?_ _)); refine blk_put (cs := #[.int .i64 0, .string (⟨#[]⟩ : ByteArray), .int .i64 (-1), .int .i64 x114003_1]) ?_ 3 _ rfl; (with_reducible repeat (first | refine blk_drewN ?_ _ | refine blk_drew ?_ | refine blk_alloc ?_ _)); refine blk_put (cs := #[.int .i64 0, .string (⟨#[]⟩ : ByteArray), .int .i64 x114002_1, .int .i64 x114003_1]) ?_ 2 _ rfl; (with_reducible repeat (first | refine blk_drewN ?_ _ | refine blk_drew ?_ | refine blk_alloc ?_ _)); refine blk_put (cs := #[.int .i64 0, .string x114001_1, .int .i64 x114002_1, .int .i64 x114003_1]) ?_ 1 _ rfl; (with_reducible repeat (first | refine blk_drewN ?_ _ | refine blk_drew ?_ | refine blk_alloc ?_ _)); refine blk_put (cs := #[.int .i64 x114000_1, .string x114001_1, .int .i64 x114002_1, .int .i64 x114003_1]) ?_ 0 _ rfl; (with_reducible repeat (first | refine blk_drewN ?_ _ | refine blk_drew ?_ | refine blk_alloc ?_ _)); exact BK113.out) Try.underlying56 rfl (by kernel_rfl)) rfl ?_
        exact ⟨by first | rfl | (simp [errW_none, errW_some] <;> rfl) | (simp [*, errW_none, errW_some] <;> rfl), by repeat (first | (with_reducible first | exact HB.out | apply below_alloc | apply pw_below_drewN | apply below_drew1 | refine below_set ?_ GE113.out) | exact HB.out)⟩

end Go.Proofs.Ytkkkcpijbkjhdaa.XA
