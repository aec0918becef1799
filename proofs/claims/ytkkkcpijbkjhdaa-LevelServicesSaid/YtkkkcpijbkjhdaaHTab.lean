/- level.Status, level.Frame, level.State: the contracts of the Go functions: tables of names. -/
import Derived.Test.YtkkkcpijbkjhdaaProg
import Derived.WalkKit
import Derived.Below
import Derived.WalkSmall
import Derived.Lib.Hide
namespace Go.Proofs.Ytkkkcpijbkjhdaa
open Go.RowKit

/-- the name of a value; of another none -/
def statusP (s : Int) : ByteArray :=
  if s = 0 then (⟨#[69, 95, 79, 75]⟩ : ByteArray) else if s = 1 then (⟨#[69, 95, 79, 83, 95, 65, 67, 67, 69, 83, 83]⟩ : ByteArray) else if s = 2 then (⟨#[69, 95, 79, 83, 95, 67, 65, 76, 76, 69, 86, 69, 76]⟩ : ByteArray) else if s = 3 then (⟨#[69, 95, 79, 83, 95, 73, 68]⟩ : ByteArray) else if s = 4 then (⟨#[69, 95, 79, 83, 95, 76, 73, 77, 73, 84]⟩ : ByteArray) else if s = 5 then (⟨#[69, 95, 79, 83, 95, 78, 79, 70, 85, 78, 67]⟩ : ByteArray) else if s = 6 then (⟨#[69, 95, 79, 83, 95, 82, 69, 83, 79, 85, 82, 67, 69]⟩ : ByteArray) else if s = 7 then (⟨#[69, 95, 79, 83, 95, 83, 84, 65, 84, 69]⟩ : ByteArray) else if s = 8 then (⟨#[69, 95, 79, 83, 95, 86, 65, 76, 85, 69]⟩ : ByteArray) else if s = 9 then (⟨#[69, 95, 79, 83, 95, 77, 73, 83, 83, 73, 78, 71, 69, 78, 68]⟩ : ByteArray) else if s = 10 then (⟨#[69, 95, 79, 83, 95, 68, 73, 83, 65, 66, 76, 69, 68, 73, 78, 84]⟩ : ByteArray) else if s = 33 then (⟨#[69, 95, 67, 79, 77, 95, 73, 68]⟩ : ByteArray) else if s = 34 then (⟨#[69, 95, 67, 79, 77, 95, 76, 69, 78, 71, 84, 72]⟩ : ByteArray) else if s = 35 then (⟨#[69, 95, 67, 79, 77, 95, 76, 73, 77, 73, 84]⟩ : ByteArray) else if s = 36 then (⟨#[69, 95, 67, 79, 77, 95, 78, 79, 77, 83, 71]⟩ : ByteArray) else ⟨#[]⟩
set_option maxRecDepth 1000000 in
set_option maxHeartbeats 1000000 in
theorem status_0 (w : World) : Calls Try.prog 10 #[.int .i64 0] w fun e w' => e = .returned (.string (⟨#[69, 95, 79, 75]⟩ : ByteArray)) ∧ Below w.heap.size w w' := by
  go_enter Try.func10, Try.ntmps10
  go_wp2
  go_ret
  exact ⟨rfl, ((Below.refl _ _).alloc (Nat.le_refl _) _).alloc (by simp) _⟩
set_option maxRecDepth 1000000 in
set_option maxHeartbeats 1000000 in
theorem status_1 (w : World) : Calls Try.prog 10 #[.int .i64 1] w fun e w' => e = .returned (.string (⟨#[69, 95, 79, 83, 95, 65, 67, 67, 69, 83, 83]⟩ : ByteArray)) ∧ Below w.heap.size w w' := by
  go_enter Try.func10, Try.ntmps10
  go_wp2
  go_ret
  exact ⟨rfl, ((Below.refl _ _).alloc (Nat.le_refl _) _).alloc (by simp) _⟩
set_option maxRecDepth 1000000 in
set_option maxHeartbeats 1000000 in
theorem status_2 (w : World) : Calls Try.prog 10 #[.int .i64 2] w fun e w' => e = .returned (.string (⟨#[69, 95, 79, 83, 95, 67, 65, 76, 76, 69, 86, 69, 76]⟩ : ByteArray)) ∧ Below w.heap.size w w' := by
  go_enter Try.func10, Try.ntmps10
  go_wp2
  go_ret
  exact ⟨rfl, ((Below.refl _ _).alloc (Nat.le_refl _) _).alloc (by simp) _⟩
set_option maxRecDepth 1000000 in
set_option maxHeartbeats 1000000 in
theorem status_3 (w : World) : Calls Try.prog 10 #[.int .i64 3] w fun e w' => e = .returned (.string (⟨#[69, 95, 79, 83, 95, 73, 68]⟩ : ByteArray)) ∧ Below w.heap.size w w' := by
  go_enter Try.func10, Try.ntmps10
  go_wp2
  go_ret
  exact ⟨rfl, ((Below.refl _ _).alloc (Nat.le_refl _) _).alloc (by simp) _⟩
set_option maxRecDepth 1000000 in
set_option maxHeartbeats 1000000 in
theorem status_4 (w : World) : Calls Try.prog 10 #[.int .i64 4] w fun e w' => e = .returned (.string (⟨#[69, 95, 79, 83, 95, 76, 73, 77, 73, 84]⟩ : ByteArray)) ∧ Below w.heap.size w w' := by
  go_enter Try.func10, Try.ntmps10
  go_wp2
  go_ret
  exact ⟨rfl, ((Below.refl _ _).alloc (Nat.le_refl _) _).alloc (by simp) _⟩
set_option maxRecDepth 1000000 in
set_option maxHeartbeats 1000000 in
theorem status_5 (w : World) : Calls Try.prog 10 #[.int .i64 5] w fun e w' => e = .returned (.string (⟨#[69, 95, 79, 83, 95, 78, 79, 70, 85, 78, 67]⟩ : ByteArray)) ∧ Below w.heap.size w w' := by
  go_enter Try.func10, Try.ntmps10
  go_wp2
  go_ret
  exact ⟨rfl, ((Below.refl _ _).alloc (Nat.le_refl _) _).alloc (by simp) _⟩
set_option maxRecDepth 1000000 in
set_option maxHeartbeats 1000000 in
theorem status_6 (w : World) : Calls Try.prog 10 #[.int .i64 6] w fun e w' => e = .returned (.string (⟨#[69, 95, 79, 83, 95, 82, 69, 83, 79, 85, 82, 67, 69]⟩ : ByteArray)) ∧ Below w.heap.size w w' := by
  go_enter Try.func10, Try.ntmps10
  go_wp2
  go_ret
  exact ⟨rfl, ((Below.refl _ _).alloc (Nat.le_refl _) _).alloc (by simp) _⟩
set_option maxRecDepth 1000000 in
set_option maxHeartbeats 1000000 in
theorem status_7 (w : World) : Calls Try.prog 10 #[.int .i64 7] w fun e w' => e = .returned (.string (⟨#[69, 95, 79, 83, 95, 83, 84, 65, 84, 69]⟩ : ByteArray)) ∧ Below w.heap.size w w' := by
  go_enter Try.func10, Try.ntmps10
  go_wp2
  go_ret
  exact ⟨rfl, ((Below.refl _ _).alloc (Nat.le_refl _) _).alloc (by simp) _⟩
set_option maxRecDepth 1000000 in
set_option maxHeartbeats 1000000 in
theorem status_8 (w : World) : Calls Try.prog 10 #[.int .i64 8] w fun e w' => e = .returned (.string (⟨#[69, 95, 79, 83, 95, 86, 65, 76, 85, 69]⟩ : ByteArray)) ∧ Below w.heap.size w w' := by
  go_enter Try.func10, Try.ntmps10
  go_wp2
  go_ret
  exact ⟨rfl, ((Below.refl _ _).alloc (Nat.le_refl _) _).alloc (by simp) _⟩
set_option maxRecDepth 1000000 in
set_option maxHeartbeats 1000000 in
theorem status_9 (w : World) : Calls Try.prog 10 #[.int .i64 9] w fun e w' => e = .returned (.string (⟨#[69, 95, 79, 83, 95, 77, 73, 83, 83, 73, 78, 71, 69, 78, 68]⟩ : ByteArray)) ∧ Below w.heap.size w w' := by
  go_enter Try.func10, Try.ntmps10
  go_wp2
  go_ret
  exact ⟨rfl, ((Below.refl _ _).alloc (Nat.le_refl _) _).alloc (by simp) _⟩
set_option maxRecDepth 1000000 in
set_option maxHeartbeats 1000000 in
theorem status_10 (w : World) : Calls Try.prog 10 #[.int .i64 10] w fun e w' => e = .returned (.string (⟨#[69, 95, 79, 83, 95, 68, 73, 83, 65, 66, 76, 69, 68, 73, 78, 84]⟩ : ByteArray)) ∧ Below w.heap.size w w' := by
  go_enter Try.func10, Try.ntmps10
  go_wp2
  go_ret
  exact ⟨rfl, ((Below.refl _ _).alloc (Nat.le_refl _) _).alloc (by simp) _⟩
set_option maxRecDepth 1000000 in
set_option maxHeartbeats 1000000 in
theorem status_33 (w : World) : Calls Try.prog 10 #[.int .i64 33] w fun e w' => e = .returned (.string (⟨#[69, 95, 67, 79, 77, 95, 73, 68]⟩ : ByteArray)) ∧ Below w.heap.size w w' := by
  go_enter Try.func10, Try.ntmps10
  go_wp2
  go_ret
  exact ⟨rfl, ((Below.refl _ _).alloc (Nat.le_refl _) _).alloc (by simp) _⟩
set_option maxRecDepth 1000000 in
set_option maxHeartbeats 1000000 in
theorem status_34 (w : World) : Calls Try.prog 10 #[.int .i64 34] w fun e w' => e = .returned (.string (⟨#[69, 95, 67, 79, 77, 95, 76, 69, 78, 71, 84, 72]⟩ : ByteArray)) ∧ Below w.heap.size w w' := by
  go_enter Try.func10, Try.ntmps10
  go_wp2
  go_ret
  exact ⟨rfl, ((Below.refl _ _).alloc (Nat.le_refl _) _).alloc (by simp) _⟩
set_option maxRecDepth 1000000 in
set_option maxHeartbeats 1000000 in
theorem status_35 (w : World) : Calls Try.prog 10 #[.int .i64 35] w fun e w' => e = .returned (.string (⟨#[69, 95, 67, 79, 77, 95, 76, 73, 77, 73, 84]⟩ : ByteArray)) ∧ Below w.heap.size w w' := by
  go_enter Try.func10, Try.ntmps10
  go_wp2
  go_ret
  exact ⟨rfl, ((Below.refl _ _).alloc (Nat.le_refl _) _).alloc (by simp) _⟩
set_option maxRecDepth 1000000 in
set_option maxHeartbeats 1000000 in
theorem status_36 (w : World) : Calls Try.prog 10 #[.int .i64 36] w fun e w' => e = .returned (.string (⟨#[69, 95, 67, 79, 77, 95, 78, 79, 77, 83, 71]⟩ : ByteArray)) ∧ Below w.heap.size w w' := by
  go_enter Try.func10, Try.ntmps10
  go_wp2
  go_ret
  exact ⟨rfl, ((Below.refl _ _).alloc (Nat.le_refl _) _).alloc (by simp) _⟩
set_option maxRecDepth 1000000 in
set_option maxHeartbeats 1000000 in
theorem status_no0 (s : Int) (w : World) (h : s < 0) : Calls Try.prog 10 #[.int .i64 s] w fun e w' => e = .returned (.string ⟨#[]⟩) ∧ Below w.heap.size w w' := by
  have d0 : decide (0 ≤ s) = false := decide_eq_false (by omega)
  have d1 : decide (33 ≤ s) = false := decide_eq_false (by omega)
  go_enter Try.func10, Try.ntmps10
  go_wp2
  go_ret
  exact ⟨rfl, ((Below.refl _ _).alloc (Nat.le_refl _) _).alloc (by simp) _⟩
set_option maxRecDepth 1000000 in
set_option maxHeartbeats 1000000 in
theorem status_no1 (s : Int) (w : World) (h : 11 ≤ s ∧ s < 33) : Calls Try.prog 10 #[.int .i64 s] w fun e w' => e = .returned (.string ⟨#[]⟩) ∧ Below w.heap.size w w' := by
  have d0 : decide (0 ≤ s) = true := decide_eq_true (by omega)
  have d1 : decide (s < 11) = false := decide_eq_false (by omega)
  have d2 : decide (33 ≤ s) = false := decide_eq_false (by omega)
  go_enter Try.func10, Try.ntmps10
  go_wp2
  go_ret
  exact ⟨rfl, ((Below.refl _ _).alloc (Nat.le_refl _) _).alloc (by simp) _⟩
set_option maxRecDepth 1000000 in
set_option maxHeartbeats 1000000 in
theorem status_no2 (s : Int) (w : World) (h : 37 ≤ s) : Calls Try.prog 10 #[.int .i64 s] w fun e w' => e = .returned (.string ⟨#[]⟩) ∧ Below w.heap.size w w' := by
  have d0 : decide (0 ≤ s) = true := decide_eq_true (by omega)
  have d1 : decide (s < 11) = false := decide_eq_false (by omega)
  have d2 : decide (33 ≤ s) = true := decide_eq_true (by omega)
  have d3 : decide (s ≤ 36) = false := decide_eq_false (by omega)
  go_enter Try.func10, Try.ntmps10
  go_wp2
  go_ret
  exact ⟨rfl, ((Below.refl _ _).alloc (Nat.le_refl _) _).alloc (by simp) _⟩
theorem status_calls (s : Int) (w : World) : Calls Try.prog 10 #[.int .i64 s] w fun e w' => e = .returned (.string (statusP s)) ∧ Below w.heap.size w w' := by
  by_cases c0 : s = 0
  · subst c0
    exact status_0 w
  by_cases c1 : s = 1
  · subst c1
    exact status_1 w
  by_cases c2 : s = 2
  · subst c2
    exact status_2 w
  by_cases c3 : s = 3
  · subst c3
    exact status_3 w
  by_cases c4 : s = 4
  · subst c4
    exact status_4 w
  by_cases c5 : s = 5
  · subst c5
    exact status_5 w
  by_cases c6 : s = 6
  · subst c6
    exact status_6 w
  by_cases c7 : s = 7
  · subst c7
    exact status_7 w
  by_cases c8 : s = 8
  · subst c8
    exact status_8 w
  by_cases c9 : s = 9
  · subst c9
    exact status_9 w
  by_cases c10 : s = 10
  · subst c10
    exact status_10 w
  by_cases c33 : s = 33
  · subst c33
    exact status_33 w
  by_cases c34 : s = 34
  · subst c34
    exact status_34 w
  by_cases c35 : s = 35
  · subst c35
    exact status_35 w
  by_cases c36 : s = 36
  · subst c36
    exact status_36 w
  have hn : statusP s = ⟨#[]⟩ := by unfold statusP; rw [if_neg c0, if_neg c1, if_neg c2, if_neg c3, if_neg c4, if_neg c5, if_neg c6, if_neg c7, if_neg c8, if_neg c9, if_neg c10, if_neg c33, if_neg c34, if_neg c35, if_neg c36]
  rw [hn]
  rcases Int.lt_or_le s 0 with h | h
  · exact status_no0 s w h
  · rcases Int.lt_or_le s 33 with h2 | h2
    · exact status_no1 s w (by omega)
    · exact status_no2 s w (by omega)
/-- the name of a value; of another none -/
def frameP (s : Int) : ByteArray :=
  if s = 0 then (⟨#[]⟩ : ByteArray) else if s = 1 then (⟨#[84, 65, 83, 75]⟩ : ByteArray) else if s = 2 then (⟨#[73, 83, 82]⟩ : ByteArray) else if s = 3 then (⟨#[83, 84, 65, 82, 84, 85, 80]⟩ : ByteArray) else if s = 4 then (⟨#[69, 82, 82, 79, 82]⟩ : ByteArray) else if s = 5 then (⟨#[83, 72, 85, 84, 68, 79, 87, 78]⟩ : ByteArray) else if s = 6 then (⟨#[80, 82, 69]⟩ : ByteArray) else if s = 7 then (⟨#[80, 79, 83, 84]⟩ : ByteArray) else if s = 8 then (⟨#[67, 65, 76, 76, 66, 65, 67, 75]⟩ : ByteArray) else ⟨#[]⟩
set_option maxRecDepth 1000000 in
set_option maxHeartbeats 1000000 in
theorem frame_0 (w : World) : Calls Try.prog 12 #[.int .i64 0] w fun e w' => e = .returned (.string (⟨#[]⟩ : ByteArray)) ∧ Below w.heap.size w w' := by
  go_enter Try.func12, Try.ntmps12
  go_wp2
  go_ret
  exact ⟨rfl, (Below.refl _ _).alloc (Nat.le_refl _) _⟩
set_option maxRecDepth 1000000 in
set_option maxHeartbeats 1000000 in
theorem frame_1 (w : World) : Calls Try.prog 12 #[.int .i64 1] w fun e w' => e = .returned (.string (⟨#[84, 65, 83, 75]⟩ : ByteArray)) ∧ Below w.heap.size w w' := by
  go_enter Try.func12, Try.ntmps12
  go_wp2
  go_ret
  exact ⟨rfl, (Below.refl _ _).alloc (Nat.le_refl _) _⟩
set_option maxRecDepth 1000000 in
set_option maxHeartbeats 1000000 in
theorem frame_2 (w : World) : Calls Try.prog 12 #[.int .i64 2] w fun e w' => e = .returned (.string (⟨#[73, 83, 82]⟩ : ByteArray)) ∧ Below w.heap.size w w' := by
  go_enter Try.func12, Try.ntmps12
  go_wp2
  go_ret
  exact ⟨rfl, (Below.refl _ _).alloc (Nat.le_refl _) _⟩
set_option maxRecDepth 1000000 in
set_option maxHeartbeats 1000000 in
theorem frame_3 (w : World) : Calls Try.prog 12 #[.int .i64 3] w fun e w' => e = .returned (.string (⟨#[83, 84, 65, 82, 84, 85, 80]⟩ : ByteArray)) ∧ Below w.heap.size w w' := by
  go_enter Try.func12, Try.ntmps12
  go_wp2
  go_ret
  exact ⟨rfl, (Below.refl _ _).alloc (Nat.le_refl _) _⟩
set_option maxRecDepth 1000000 in
set_option maxHeartbeats 1000000 in
theorem frame_4 (w : World) : Calls Try.prog 12 #[.int .i64 4] w fun e w' => e = .returned (.string (⟨#[69, 82, 82, 79, 82]⟩ : ByteArray)) ∧ Below w.heap.size w w' := by
  go_enter Try.func12, Try.ntmps12
  go_wp2
  go_ret
  exact ⟨rfl, (Below.refl _ _).alloc (Nat.le_refl _) _⟩
set_option maxRecDepth 1000000 in
set_option maxHeartbeats 1000000 in
theorem frame_5 (w : World) : Calls Try.prog 12 #[.int .i64 5] w fun e w' => e = .returned (.string (⟨#[83, 72, 85, 84, 68, 79, 87, 78]⟩ : ByteArray)) ∧ Below w.heap.size w w' := by
  go_enter Try.func12, Try.ntmps12
  go_wp2
  go_ret
  exact ⟨rfl, (Below.refl _ _).alloc (Nat.le_refl _) _⟩
set_option maxRecDepth 1000000 in
set_option maxHeartbeats 1000000 in
theorem frame_6 (w : World) : Calls Try.prog 12 #[.int .i64 6] w fun e w' => e = .returned (.string (⟨#[80, 82, 69]⟩ : ByteArray)) ∧ Below w.heap.size w w' := by
  go_enter Try.func12, Try.ntmps12
  go_wp2
  go_ret
  exact ⟨rfl, (Below.refl _ _).alloc (Nat.le_refl _) _⟩
set_option maxRecDepth 1000000 in
set_option maxHeartbeats 1000000 in
theorem frame_7 (w : World) : Calls Try.prog 12 #[.int .i64 7] w fun e w' => e = .returned (.string (⟨#[80, 79, 83, 84]⟩ : ByteArray)) ∧ Below w.heap.size w w' := by
  go_enter Try.func12, Try.ntmps12
  go_wp2
  go_ret
  exact ⟨rfl, (Below.refl _ _).alloc (Nat.le_refl _) _⟩
set_option maxRecDepth 1000000 in
set_option maxHeartbeats 1000000 in
theorem frame_8 (w : World) : Calls Try.prog 12 #[.int .i64 8] w fun e w' => e = .returned (.string (⟨#[67, 65, 76, 76, 66, 65, 67, 75]⟩ : ByteArray)) ∧ Below w.heap.size w w' := by
  go_enter Try.func12, Try.ntmps12
  go_wp2
  go_ret
  exact ⟨rfl, (Below.refl _ _).alloc (Nat.le_refl _) _⟩
set_option maxRecDepth 1000000 in
set_option maxHeartbeats 1000000 in
theorem frame_no0 (s : Int) (w : World) (h : s < 0) : Calls Try.prog 12 #[.int .i64 s] w fun e w' => e = .returned (.string ⟨#[]⟩) ∧ Below w.heap.size w w' := by
  have d0 : decide (s < 0) = true := decide_eq_true h
  go_enter Try.func12, Try.ntmps12
  go_wp2
  go_ret
  exact ⟨rfl, (Below.refl _ _).alloc (Nat.le_refl _) _⟩
set_option maxRecDepth 1000000 in
set_option maxHeartbeats 1000000 in
theorem frame_no1 (s : Int) (w : World) (h : 9 ≤ s) : Calls Try.prog 12 #[.int .i64 s] w fun e w' => e = .returned (.string ⟨#[]⟩) ∧ Below w.heap.size w w' := by
  have d0 : decide (s < 0) = false := decide_eq_false (by omega)
  have d1 : decide (9 ≤ s) = true := decide_eq_true h
  go_enter Try.func12, Try.ntmps12
  go_wp2
  go_ret
  exact ⟨rfl, (Below.refl _ _).alloc (Nat.le_refl _) _⟩
theorem frame_calls (s : Int) (w : World) : Calls Try.prog 12 #[.int .i64 s] w fun e w' => e = .returned (.string (frameP s)) ∧ Below w.heap.size w w' := by
  by_cases c0 : s = 0
  · subst c0
    exact frame_0 w
  by_cases c1 : s = 1
  · subst c1
    exact frame_1 w
  by_cases c2 : s = 2
  · subst c2
    exact frame_2 w
  by_cases c3 : s = 3
  · subst c3
    exact frame_3 w
  by_cases c4 : s = 4
  · subst c4
    exact frame_4 w
  by_cases c5 : s = 5
  · subst c5
    exact frame_5 w
  by_cases c6 : s = 6
  · subst c6
    exact frame_6 w
  by_cases c7 : s = 7
  · subst c7
    exact frame_7 w
  by_cases c8 : s = 8
  · subst c8
    exact frame_8 w
  have hn : frameP s = ⟨#[]⟩ := by unfold frameP; rw [if_neg c0, if_neg c1, if_neg c2, if_neg c3, if_neg c4, if_neg c5, if_neg c6, if_neg c7, if_neg c8]
  rw [hn]
  rcases Int.lt_or_le s 0 with h | h
  · exact frame_no0 s w h
  · exact frame_no1 s w (by omega)
/-- the name of a value; of another none -/
def stateP (s : Int) : ByteArray :=
  if s = 0 then (⟨#[82, 85, 78, 78, 73, 78, 71]⟩ : ByteArray) else if s = 1 then (⟨#[87, 65, 73, 84, 73, 78, 71]⟩ : ByteArray) else if s = 2 then (⟨#[82, 69, 65, 68, 89]⟩ : ByteArray) else if s = 3 then (⟨#[83, 85, 83, 80, 69, 78, 68, 69, 68]⟩ : ByteArray) else ⟨#[]⟩
set_option maxRecDepth 1000000 in
set_option maxHeartbeats 1000000 in
theorem state_0 (w : World) : Calls Try.prog 14 #[.int .i64 0] w fun e w' => e = .returned (.string (⟨#[82, 85, 78, 78, 73, 78, 71]⟩ : ByteArray)) ∧ Below w.heap.size w w' := by
  go_enter Try.func14, Try.ntmps14
  go_wp2
  go_ret
  exact ⟨rfl, (Below.refl _ _).alloc (Nat.le_refl _) _⟩
set_option maxRecDepth 1000000 in
set_option maxHeartbeats 1000000 in
theorem state_1 (w : World) : Calls Try.prog 14 #[.int .i64 1] w fun e w' => e = .returned (.string (⟨#[87, 65, 73, 84, 73, 78, 71]⟩ : ByteArray)) ∧ Below w.heap.size w w' := by
  go_enter Try.func14, Try.ntmps14
  go_wp2
  go_ret
  exact ⟨rfl, (Below.refl _ _).alloc (Nat.le_refl _) _⟩
set_option maxRecDepth 1000000 in
set_option maxHeartbeats 1000000 in
theorem state_2 (w : World) : Calls Try.prog 14 #[.int .i64 2] w fun e w' => e = .returned (.string (⟨#[82, 69, 65, 68, 89]⟩ : ByteArray)) ∧ Below w.heap.size w w' := by
  go_enter Try.func14, Try.ntmps14
  go_wp2
  go_ret
  exact ⟨rfl, (Below.refl _ _).alloc (Nat.le_refl _) _⟩
set_option maxRecDepth 1000000 in
set_option maxHeartbeats 1000000 in
theorem state_3 (w : World) : Calls Try.prog 14 #[.int .i64 3] w fun e w' => e = .returned (.string (⟨#[83, 85, 83, 80, 69, 78, 68, 69, 68]⟩ : ByteArray)) ∧ Below w.heap.size w w' := by
  go_enter Try.func14, Try.ntmps14
  go_wp2
  go_ret
  exact ⟨rfl, (Below.refl _ _).alloc (Nat.le_refl _) _⟩
set_option maxRecDepth 1000000 in
set_option maxHeartbeats 1000000 in
theorem state_no0 (s : Int) (w : World) (h : s < 0) : Calls Try.prog 14 #[.int .i64 s] w fun e w' => e = .returned (.string ⟨#[]⟩) ∧ Below w.heap.size w w' := by
  have d0 : decide (s < 0) = true := decide_eq_true h
  go_enter Try.func14, Try.ntmps14
  go_wp2
  go_ret
  exact ⟨rfl, (Below.refl _ _).alloc (Nat.le_refl _) _⟩
set_option maxRecDepth 1000000 in
set_option maxHeartbeats 1000000 in
theorem state_no1 (s : Int) (w : World) (h : 4 ≤ s) : Calls Try.prog 14 #[.int .i64 s] w fun e w' => e = .returned (.string ⟨#[]⟩) ∧ Below w.heap.size w w' := by
  have d0 : decide (s < 0) = false := decide_eq_false (by omega)
  have d1 : decide (4 ≤ s) = true := decide_eq_true h
  go_enter Try.func14, Try.ntmps14
  go_wp2
  go_ret
  exact ⟨rfl, (Below.refl _ _).alloc (Nat.le_refl _) _⟩
theorem state_calls (s : Int) (w : World) : Calls Try.prog 14 #[.int .i64 s] w fun e w' => e = .returned (.string (stateP s)) ∧ Below w.heap.size w w' := by
  by_cases c0 : s = 0
  · subst c0
    exact state_0 w
  by_cases c1 : s = 1
  · subst c1
    exact state_1 w
  by_cases c2 : s = 2
  · subst c2
    exact state_2 w
  by_cases c3 : s = 3
  · subst c3
    exact state_3 w
  have hn : stateP s = ⟨#[]⟩ := by unfold stateP; rw [if_neg c0, if_neg c1, if_neg c2, if_neg c3]
  rw [hn]
  rcases Int.lt_or_le s 0 with h | h
  · exact state_no0 s w h
  · exact state_no1 s w (by omega)

end Go.Proofs.Ytkkkcpijbkjhdaa
