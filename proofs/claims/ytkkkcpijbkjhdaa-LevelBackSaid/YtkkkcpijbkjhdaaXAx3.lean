-- WRITTEN BY wip/tools/xprint.py: a program of this session's over the kit's printer, with texts of this session's own among them
import Derived.Test.YtkkkcpijbkjhdaaXAx0
import Derived.Test.YtkkkcpijbkjhdaaXAx1
import Derived.Test.YtkkkcpijbkjhdaaXAx2
namespace Go.Proofs.Ytkkkcpijbkjhdaa.XA
open Go.RowKit Go.Proofs.YtkkkcpijbkjhdaaW.PrintWords Go.Proofs.YtkkkcpijbkjhdaaW.PrintLast Go.Proofs.YtkkkcpijbkjhdaaW.PrintMore
attribute [local go_sem] max2_int min2_int max_two min_two max_three min_three max_four min_four   -- for this text's walks alone
set_option linter.unusedVariables false
set_option linter.unusedSimpArgs false

/-! ### tappetlaw17_LevelBack: function 4 -/
mutual
def tappetlaw17_LevelBack.j1 : Nat → Int → Int → Int → Option (Bool)
  | 0, _, _, _ => none
  | k + 1, x0, x1, x2 => (level_Status.f x0).bind fun t167 => (if t167.toList = ([] : List UInt8) then (tappetlaw17_LevelBack.j2 k x0 x2) else ((level_StatusOf.f t167).bind fun bt168 => (if bt168.2 = true then (if bt168.1 = x0 then (if x0 = x1 then (tappetlaw17_LevelBack.j2 k x0 x2) else ((level_Status.f x1).bind fun t170 => (if t170.toList = t167.toList then (some false) else (tappetlaw17_LevelBack.j2 k x0 x2)))) else (some false)) else (some false))))
def tappetlaw17_LevelBack.j2 : Nat → Int → Int → Option (Bool)
  | 0, _, _ => none
  | k + 1, x0, x2 => if x2 ≥ 4 then (tappetlaw17_LevelBack.j3 k x0 x2 (decide (x2 ≤ 8))) else (tappetlaw17_LevelBack.j3 k x0 x2 false)
def tappetlaw17_LevelBack.j3 : Nat → Int → Int → Bool → Option (Bool)
  | 0, _, _, _ => none
  | k + 1, x0, x2, x13 => if x0 ≥ 4 then (if x0 ≤ 7 then (tappetlaw17_LevelBack.j4 k x0 x2 x13 true) else (if x0 ≥ 16 then (if x0 ≤ 19 then (tappetlaw17_LevelBack.j4 k x0 x2 x13 true) else (if x0 = 21 then (tappetlaw17_LevelBack.j4 k x0 x2 x13 true) else (if x0 ≥ 24 then (tappetlaw17_LevelBack.j4 k x0 x2 x13 (decide (x0 ≤ 26))) else (tappetlaw17_LevelBack.j4 k x0 x2 x13 false)))) else (if x0 = 21 then (tappetlaw17_LevelBack.j4 k x0 x2 x13 true) else (if x0 ≥ 24 then (tappetlaw17_LevelBack.j4 k x0 x2 x13 (decide (x0 ≤ 26))) else (tappetlaw17_LevelBack.j4 k x0 x2 x13 false))))) else (if x0 ≥ 16 then (if x0 ≤ 19 then (tappetlaw17_LevelBack.j4 k x0 x2 x13 true) else (if x0 = 21 then (tappetlaw17_LevelBack.j4 k x0 x2 x13 true) else (if x0 ≥ 24 then (tappetlaw17_LevelBack.j4 k x0 x2 x13 (decide (x0 ≤ 26))) else (tappetlaw17_LevelBack.j4 k x0 x2 x13 false)))) else (if x0 = 21 then (tappetlaw17_LevelBack.j4 k x0 x2 x13 true) else (if x0 ≥ 24 then (tappetlaw17_LevelBack.j4 k x0 x2 x13 (decide (x0 ≤ 26))) else (tappetlaw17_LevelBack.j4 k x0 x2 x13 false))))
def tappetlaw17_LevelBack.j4 : Nat → Int → Int → Bool → Bool → Option (Bool)
  | 0, _, _, _, _ => none
  | k + 1, x0, x2, x13, x14 => if x13 = true then (if x14 = true then ((level_May.f k x0 x2).bind fun t171 => (if t171 = true then (some false) else ((tappetlaw17_heads.f k).bind fun t172 => (some t172)))) else ((tappetlaw17_heads.f k).bind fun t173 => (some t173))) else ((tappetlaw17_heads.f k).bind fun t174 => (some t174))
def tappetlaw17_LevelBack.j0 : Nat → Int → Int → Int → Bool → Option (Bool)
  | 0, _, _, _, _ => none
  | k + 1, x0, x1, x2, x46 => if x46 = true then (some false) else ((level_May.f k x0 1).bind fun t166 => (if (t166 != (x0 != 1)) = true then (some false) else (tappetlaw17_LevelBack.j1 k x0 x1 x2)))
end
def tappetlaw17_LevelBack.f (k : Nat) (a0 : Int) (a1 : Int) (a2 : Int) : Option (Bool) := (level_Name.f k a0).bind fun t161 => (if t161.toList = ([] : List UInt8) then (tappetlaw17_LevelBack.j1 k a0 a1 a2) else ((level_Number.f t161).bind fun bt162 => (if bt162.2 = true then (if bt162.1 = a0 then ((level_Params.f k a0).bind fun t164 => (if t164 < 0 then (tappetlaw17_LevelBack.j0 k a0 a1 a2 true) else (if a0 = a1 then (tappetlaw17_LevelBack.j0 k a0 a1 a2 false) else ((level_Name.f k a1).bind fun t165 => (tappetlaw17_LevelBack.j0 k a0 a1 a2 (t165.toList == t161.toList)))))) else (tappetlaw17_LevelBack.j0 k a0 a1 a2 true)) else (tappetlaw17_LevelBack.j0 k a0 a1 a2 true))))
theorem tappetlaw17_LevelBack.mono_l : ∀ k, (∀ y0 y1 y2, LeO (tappetlaw17_LevelBack.j1 k y0 y1 y2) (tappetlaw17_LevelBack.j1 (k + 1) y0 y1 y2)) ∧ (∀ y0 y1, LeO (tappetlaw17_LevelBack.j2 k y0 y1) (tappetlaw17_LevelBack.j2 (k + 1) y0 y1)) ∧ (∀ y0 y1 y2, LeO (tappetlaw17_LevelBack.j3 k y0 y1 y2) (tappetlaw17_LevelBack.j3 (k + 1) y0 y1 y2)) ∧ (∀ y0 y1 y2 y3, LeO (tappetlaw17_LevelBack.j4 k y0 y1 y2 y3) (tappetlaw17_LevelBack.j4 (k + 1) y0 y1 y2 y3)) ∧ (∀ y0 y1 y2 y3, LeO (tappetlaw17_LevelBack.j0 k y0 y1 y2 y3) (tappetlaw17_LevelBack.j0 (k + 1) y0 y1 y2 y3))
  | 0 => ⟨fun _ _ _ r h => by simp [tappetlaw17_LevelBack.j1] at h, fun _ _ r h => by simp [tappetlaw17_LevelBack.j2] at h, fun _ _ _ r h => by simp [tappetlaw17_LevelBack.j3] at h, fun _ _ _ _ r h => by simp [tappetlaw17_LevelBack.j4] at h, fun _ _ _ _ r h => by simp [tappetlaw17_LevelBack.j0] at h⟩
  | k + 1 => by
    obtain ⟨ih0, ih1, ih2, ih3, ih4⟩ := tappetlaw17_LevelBack.mono_l k
    refine ⟨?_, ?_, ?_, ?_, ?_⟩
    · intro y0 y1 y2
      unfold tappetlaw17_LevelBack.j1
      repeat' first
      | (with_reducible exact ih0 _ _ _)
      | (with_reducible exact ih1 _ _)
      | (with_reducible exact ih2 _ _ _)
      | (with_reducible exact ih3 _ _ _ _)
      | (with_reducible exact ih4 _ _ _ _)
      | (with_reducible exact level_May.mono _ _ _)
      | (with_reducible exact level_Name.mono _ _)
      | (with_reducible exact level_Params.mono _ _)
      | (with_reducible exact tappetlaw17_heads.mono _)
      | (with_reducible exact LeO.refl _)
      | (with_reducible exact LeO.none _)
      | (with_reducible refine LeO.ite ?_ ?_)
      | (with_reducible refine LeO.bind ?_ (fun _ => ?_))
      | exact ih0 _ _ _
      | exact ih1 _ _
      | exact ih2 _ _ _
      | exact ih3 _ _ _ _
      | exact ih4 _ _ _ _
      | exact level_May.mono _ _ _
      | exact level_Name.mono _ _
      | exact level_Params.mono _ _
      | exact tappetlaw17_heads.mono _
      | exact LeO.none _
      | refine LeO.ite ?_ ?_
      | refine LeO.bind ?_ (fun _ => ?_)
    · intro y0 y1
      unfold tappetlaw17_LevelBack.j2
      repeat' first
      | (with_reducible exact ih0 _ _ _)
      | (with_reducible exact ih1 _ _)
      | (with_reducible exact ih2 _ _ _)
      | (with_reducible exact ih3 _ _ _ _)
      | (with_reducible exact ih4 _ _ _ _)
      | (with_reducible exact level_May.mono _ _ _)
      | (with_reducible exact level_Name.mono _ _)
      | (with_reducible exact level_Params.mono _ _)
      | (with_reducible exact tappetlaw17_heads.mono _)
      | (with_reducible exact LeO.refl _)
      | (with_reducible exact LeO.none _)
      | (with_reducible refine LeO.ite ?_ ?_)
      | (with_reducible refine LeO.bind ?_ (fun _ => ?_))
      | exact ih0 _ _ _
      | exact ih1 _ _
      | exact ih2 _ _ _
      | exact ih3 _ _ _ _
      | exact ih4 _ _ _ _
      | exact level_May.mono _ _ _
      | exact level_Name.mono _ _
      | exact level_Params.mono _ _
      | exact tappetlaw17_heads.mono _
      | exact LeO.none _
      | refine LeO.ite ?_ ?_
      | refine LeO.bind ?_ (fun _ => ?_)
    · intro y0 y1 y2
      unfold tappetlaw17_LevelBack.j3
      repeat' first
      | (with_reducible exact ih0 _ _ _)
      | (with_reducible exact ih1 _ _)
      | (with_reducible exact ih2 _ _ _)
      | (with_reducible exact ih3 _ _ _ _)
      | (with_reducible exact ih4 _ _ _ _)
      | (with_reducible exact level_May.mono _ _ _)
      | (with_reducible exact level_Name.mono _ _)
      | (with_reducible exact level_Params.mono _ _)
      | (with_reducible exact tappetlaw17_heads.mono _)
      | (with_reducible exact LeO.refl _)
      | (with_reducible exact LeO.none _)
      | (with_reducible refine LeO.ite ?_ ?_)
      | (with_reducible refine LeO.bind ?_ (fun _ => ?_))
      | exact ih0 _ _ _
      | exact ih1 _ _
      | exact ih2 _ _ _
      | exact ih3 _ _ _ _
      | exact ih4 _ _ _ _
      | exact level_May.mono _ _ _
      | exact level_Name.mono _ _
      | exact level_Params.mono _ _
      | exact tappetlaw17_heads.mono _
      | exact LeO.none _
      | refine LeO.ite ?_ ?_
      | refine LeO.bind ?_ (fun _ => ?_)
    · intro y0 y1 y2 y3
      unfold tappetlaw17_LevelBack.j4
      repeat' first
      | (with_reducible exact ih0 _ _ _)
      | (with_reducible exact ih1 _ _)
      | (with_reducible exact ih2 _ _ _)
      | (with_reducible exact ih3 _ _ _ _)
      | (with_reducible exact ih4 _ _ _ _)
      | (with_reducible exact level_May.mono _ _ _)
      | (with_reducible exact level_Name.mono _ _)
      | (with_reducible exact level_Params.mono _ _)
      | (with_reducible exact tappetlaw17_heads.mono _)
      | (with_reducible exact LeO.refl _)
      | (with_reducible exact LeO.none _)
      | (with_reducible refine LeO.ite ?_ ?_)
      | (with_reducible refine LeO.bind ?_ (fun _ => ?_))
      | exact ih0 _ _ _
      | exact ih1 _ _
      | exact ih2 _ _ _
      | exact ih3 _ _ _ _
      | exact ih4 _ _ _ _
      | exact level_May.mono _ _ _
      | exact level_Name.mono _ _
      | exact level_Params.mono _ _
      | exact tappetlaw17_heads.mono _
      | exact LeO.none _
      | refine LeO.ite ?_ ?_
      | refine LeO.bind ?_ (fun _ => ?_)
    · intro y0 y1 y2 y3
      unfold tappetlaw17_LevelBack.j0
      repeat' first
      | (with_reducible exact ih0 _ _ _)
      | (with_reducible exact ih1 _ _)
      | (with_reducible exact ih2 _ _ _)
      | (with_reducible exact ih3 _ _ _ _)
      | (with_reducible exact ih4 _ _ _ _)
      | (with_reducible exact level_May.mono _ _ _)
      | (with_reducible exact level_Name.mono _ _)
      | (with_reducible exact level_Params.mono _ _)
      | (with_reducible exact tappetlaw17_heads.mono _)
      | (with_reducible exact LeO.refl _)
      | (with_reducible exact LeO.none _)
      | (with_reducible refine LeO.ite ?_ ?_)
      | (with_reducible refine LeO.bind ?_ (fun _ => ?_))
      | exact ih0 _ _ _
      | exact ih1 _ _
      | exact ih2 _ _ _
      | exact ih3 _ _ _ _
      | exact ih4 _ _ _ _
      | exact level_May.mono _ _ _
      | exact level_Name.mono _ _
      | exact level_Params.mono _ _
      | exact tappetlaw17_heads.mono _
      | exact LeO.none _
      | refine LeO.ite ?_ ?_
      | refine LeO.bind ?_ (fun _ => ?_)
theorem tappetlaw17_LevelBack.mono : ∀ a0 a1 a2 k, LeO (tappetlaw17_LevelBack.f k a0 a1 a2) (tappetlaw17_LevelBack.f (k + 1) a0 a1 a2) := by
  intro a0 a1 a2 k
  obtain ⟨ih0, ih1, ih2, ih3, ih4⟩ := tappetlaw17_LevelBack.mono_l k
  unfold tappetlaw17_LevelBack.f
  repeat' first
      | (with_reducible exact ih0 _ _ _)
      | (with_reducible exact ih1 _ _)
      | (with_reducible exact ih2 _ _ _)
      | (with_reducible exact ih3 _ _ _ _)
      | (with_reducible exact ih4 _ _ _ _)
      | (with_reducible exact level_May.mono _ _ _)
      | (with_reducible exact level_Name.mono _ _)
      | (with_reducible exact level_Params.mono _ _)
      | (with_reducible exact tappetlaw17_heads.mono _)
      | (with_reducible exact LeO.refl _)
      | (with_reducible exact LeO.none _)
      | (with_reducible refine LeO.ite ?_ ?_)
      | (with_reducible refine LeO.bind ?_ (fun _ => ?_))
      | exact ih0 _ _ _
      | exact ih1 _ _
      | exact ih2 _ _ _
      | exact ih3 _ _ _ _
      | exact ih4 _ _ _ _
      | exact level_May.mono _ _ _
      | exact level_Name.mono _ _
      | exact level_Params.mono _ _
      | exact tappetlaw17_heads.mono _
      | exact LeO.none _
      | refine LeO.ite ?_ ?_
      | refine LeO.bind ?_ (fun _ => ?_)
set_option maxHeartbeats 8000000 in
set_option maxRecDepth 100000 in
theorem tappetlaw17_LevelBack.calls (k : Nat) (a0 : Int) (a1 : Int) (a2 : Int) (r : Bool) (w : World) (h : tappetlaw17_LevelBack.f k a0 a1 a2 = some r) :
    Calls Try.prog 4 #[.int .i64 a0, .int .i64 a1, .int .i64 a2] w fun e w' => e = .returned (.bool r) ∧ Below w.heap.size w w' := by
  have HB := Aside0.mk (Below.refl w.heap.size w)
  have H : ((level_Name.f k a0).bind fun t161 => (if t161.toList = ([] : List UInt8) then (tappetlaw17_LevelBack.j1 k a0 a1 a2) else ((level_Number.f t161).bind fun bt162 => (if bt162.2 = true then (if bt162.1 = a0 then ((level_Params.f k a0).bind fun t164 => (if t164 < 0 then (tappetlaw17_LevelBack.j0 k a0 a1 a2 true) else (if a0 = a1 then (tappetlaw17_LevelBack.j0 k a0 a1 a2 false) else ((level_Name.f k a1).bind fun t165 => (tappetlaw17_LevelBack.j0 k a0 a1 a2 (t165.toList == t161.toList)))))) else (tappetlaw17_LevelBack.j0 k a0 a1 a2 true)) else (tappetlaw17_LevelBack.j0 k a0 a1 a2 true))))) = some r := h
  clear h
  replace H := Option.bind_eq_some_iff.mp H
  obtain ⟨t161, A40, H⟩ := H
  replace H : (if t161.toList = ([] : List UInt8) then (tappetlaw17_LevelBack.j1 k a0 a1 a2) else ((level_Number.f t161).bind fun bt162 => (if bt162.2 = true then (if bt162.1 = a0 then ((level_Params.f k a0).bind fun t164 => (if t164 < 0 then (tappetlaw17_LevelBack.j0 k a0 a1 a2 true) else (if a0 = a1 then (tappetlaw17_LevelBack.j0 k a0 a1 a2 false) else ((level_Name.f k a1).bind fun t165 => (tappetlaw17_LevelBack.j0 k a0 a1 a2 (t165.toList == t161.toList)))))) else (tappetlaw17_LevelBack.j0 k a0 a1 a2 true)) else (tappetlaw17_LevelBack.j0 k a0 a1 a2 true)))) = some r := H
  have A4 := Aside0.mk A40
  clear A40
  have HC5 := Aside0.mk H
  clear H
  go_enter Try.func4, Try.ntmps4
  go_upto_if 18 with (first | ((with_reducible refine gate_callee (f := 17) rfl ?_); refine goesL_ (some 16) rfl rfl Try.func17 (by kernel_rfl) rfl #[.int .i64 a0] rfl (by (try simp only [List.map_toArray, List.map_cons, List.map_nil]); first | done | rfl | (simp only [List.length_drop, List.length_take]; rfl)) ?_; (with_reducible refine (level_Name.calls k a0 t161 _ A4.out).mono ?_); rintro e w6 ⟨rfl, hb⟩; refine ⟨_, rfl, ?_⟩; have n0_ := Aside0.mk (below_step (by repeat (first | (with_reducible first | exact HB.out | apply below_alloc | apply pw_below_drewN | apply below_drew1) | exact HB.out)) hb); clear HB; have HB := n0_; clear n0_; (try clear hb); (try clear hb2); (try clear hk); (try clear hi)))
  (try simp only [Act.put, List.setIfInBounds_toArray, List.set_cons_zero, List.set_cons_succ])
  go_cut [] (fun wc => ∃ (kq : Nat), Aside0 (tappetlaw17_LevelBack.j1 kq a0 a1 a2 = some r) ∧ Aside0 (kq ≤ k) ∧ Aside0 (Below w.heap.size w wc))
  case first =>
    have H := HC5.out
    clear HC5
    by_cases c7 : t161.toList = ([] : List UInt8)
    · rw [if_pos c7] at H
      have c7b0 : (t161.toList == ([] : List UInt8)) = true := beq_iff_eq.mpr c7
      have c7bE : t161.toList.isEmpty = true := by simpa using c7b0
      have c7b1 : (t161.toList != ([] : List UInt8)) = false := bne_eq_false_iff_eq.mpr c7
      clear c7
      (first | rw [c7b0] | (simp only [i64_w, i32_w]; rw [c7b0]) | skip)
      (try rw [c7bE]; try simp only [Bool.not_true, Bool.not_false])
      have H' := Aside0.mk H
      clear H
      go_wp2
      go_meet
      case rel => exact ⟨_, H', ⟨by first | omega | exact Nat.le_refl _⟩, ⟨by repeat (first | (with_reducible first | exact HB.out | apply below_alloc | apply pw_below_drewN | apply below_drew1) | exact HB.out)⟩⟩
    · rw [if_neg c7] at H
      have c7b0 : (t161.toList == ([] : List UInt8)) = false := beq_eq_false_iff_ne.mpr c7
      have c7bE : t161.toList.isEmpty = false := by simpa using c7b0
      have c7b1 : (t161.toList != ([] : List UInt8)) = true := bne_iff_ne.mpr c7
      (first | rw [c7b0] | (simp only [i64_w, i32_w]; rw [c7b0]) | skip)
      (try rw [c7bE]; try simp only [Bool.not_true, Bool.not_false])
      replace H := Option.bind_eq_some_iff.mp H
      obtain ⟨⟨t162, t163⟩, A80, H⟩ := H
      replace H : (if t163 = true then (if t162 = a0 then ((level_Params.f k a0).bind fun t164 => (if t164 < 0 then (tappetlaw17_LevelBack.j0 k a0 a1 a2 true) else (if a0 = a1 then (tappetlaw17_LevelBack.j0 k a0 a1 a2 false) else ((level_Name.f k a1).bind fun t165 => (tappetlaw17_LevelBack.j0 k a0 a1 a2 (t165.toList == t161.toList)))))) else (tappetlaw17_LevelBack.j0 k a0 a1 a2 true)) else (tappetlaw17_LevelBack.j0 k a0 a1 a2 true)) = some r := H
      have A8 := Aside0.mk A80
      clear A80
      have HC9 := Aside0.mk H
      clear H
      go_upto_region 4 with (first | ((with_reducible refine gate_callee (f := 18) rfl ?_); refine goesL_ (some 21) rfl rfl Try.func18 (by kernel_rfl) rfl #[.string t161] rfl (by (try simp only [List.map_toArray, List.map_cons, List.map_nil]); first | done | rfl | (simp only [List.length_drop, List.length_take]; rfl)) ?_; (with_reducible refine (level_Number.calls t161 t162 t163 _ A8.out).mono ?_); rintro e w10 ⟨rfl, hb⟩; refine ⟨_, rfl, ?_⟩; have n0_ := Aside0.mk (below_step (by repeat (first | (with_reducible first | exact HB.out | apply below_alloc | apply pw_below_drewN | apply below_drew1) | exact HB.out)) hb); clear HB; have HB := n0_; clear n0_; (try clear hb); (try clear hb2); (try clear hk); (try clear hi)))
      (try simp only [Act.put, List.setIfInBounds_toArray, List.set_cons_zero, List.set_cons_succ])
      go_cut [46] (fun v46 wc => ∃ (kq : Nat) (x46_8 : Bool), v46 = .bool x46_8 ∧ Aside0 (tappetlaw17_LevelBack.j0 kq a0 a1 a2 x46_8 = some r) ∧ Aside0 (kq ≤ k) ∧ Aside0 (Below w.heap.size w wc))
      case first =>
        have H := HC9.out
        clear HC9
        by_cases c11 : t163 = true
        · subst c11
          have H1 : (if t162 = a0 then ((level_Params.f k a0).bind fun t164 => (if t164 < 0 then (tappetlaw17_LevelBack.j0 k a0 a1 a2 true) else (if a0 = a1 then (tappetlaw17_LevelBack.j0 k a0 a1 a2 false) else ((level_Name.f k a1).bind fun t165 => (tappetlaw17_LevelBack.j0 k a0 a1 a2 (t165.toList == t161.toList)))))) else (tappetlaw17_LevelBack.j0 k a0 a1 a2 true)) = some r := by rw [if_pos rfl] at H; exact H
          clear H
          have H := H1
          clear H1
          by_cases c12 : t162 = a0
          · rw [if_pos c12] at H
            have c12b0 : (t162 == a0) = true := beq_iff_eq.mpr c12
            have c12b1 : (t162 != a0) = false := bne_eq_false_iff_eq.mpr c12
            clear c12
            (first | rw [c12b0] | (simp only [i64_w, i32_w]; rw [c12b0]) | skip)
            replace H := Option.bind_eq_some_iff.mp H
            obtain ⟨t164, A130, H⟩ := H
            replace H : (if t164 < 0 then (tappetlaw17_LevelBack.j0 k a0 a1 a2 true) else (if a0 = a1 then (tappetlaw17_LevelBack.j0 k a0 a1 a2 false) else ((level_Name.f k a1).bind fun t165 => (tappetlaw17_LevelBack.j0 k a0 a1 a2 (t165.toList == t161.toList))))) = some r := H
            have A13 := Aside0.mk A130
            clear A130
            by_cases c14 : t164 < 0
            · rw [if_pos c14] at H
              have c14b0 : decide (t164 < 0) = true := decide_eq_true c14
              clear c14
              have H' := Aside0.mk H
              clear H
              go_wp2_with (first | (go_at_call 19; (with_reducible refine (level_Params.calls k a0 t164 _ A13.out).mono ?_); rintro e w15 ⟨rfl, hb⟩; have n0_ := Aside0.mk (below_step (by repeat (first | (with_reducible first | exact HB.out | apply below_alloc | apply pw_below_drewN | apply below_drew1) | exact HB.out)) hb); clear HB; have HB := n0_; clear n0_; (try clear hb); (try clear hb2); (try clear hk); (try clear hi)))
              go_meet
              case rel => exact ⟨_, (true), (by first | rfl | (simp; done) | (simp [*]; done)), H', ⟨by first | omega | exact Nat.le_refl _⟩, ⟨by repeat (first | (with_reducible first | exact HB.out | apply below_alloc | apply pw_below_drewN | apply below_drew1) | exact HB.out)⟩⟩
            · rw [if_neg c14] at H
              have c14b0 : decide (t164 < 0) = false := decide_eq_false c14
              clear c14
              by_cases c16 : a0 = a1
              · rw [if_pos c16] at H
                have c16b0 : (a0 == a1) = true := beq_iff_eq.mpr c16
                have c16b1 : (a0 != a1) = false := bne_eq_false_iff_eq.mpr c16
                clear c16
                have H' := Aside0.mk H
                clear H
                go_wp2_with (first | (go_at_call 19; (with_reducible refine (level_Params.calls k a0 t164 _ A13.out).mono ?_); rintro e w17 ⟨rfl, hb⟩; have n0_ := Aside0.mk (below_step (by repeat (first | (with_reducible first | exact HB.out | apply below_alloc | apply pw_below_drewN | apply below_drew1) | exact HB.out)) hb); clear HB; have HB := n0_; clear n0_; (try clear hb); (try clear hb2); (try clear hk); (try clear hi)))
                go_meet
                case rel => exact ⟨_, (false), (by first | rfl | (simp; done) | (simp [*]; done)), H', ⟨by first | omega | exact Nat.le_refl _⟩, ⟨by repeat (first | (with_reducible first | exact HB.out | apply below_alloc | apply pw_below_drewN | apply below_drew1) | exact HB.out)⟩⟩
              · rw [if_neg c16] at H
                have c16b0 : (a0 == a1) = false := beq_eq_false_iff_ne.mpr c16
                have c16b1 : (a0 != a1) = true := bne_iff_ne.mpr c16
                replace H := Option.bind_eq_some_iff.mp H
                obtain ⟨t165, A180, H⟩ := H
                replace H : (tappetlaw17_LevelBack.j0 k a0 a1 a2 (t165.toList == t161.toList)) = some r := H
                have A18 := Aside0.mk A180
                clear A180
                have H' := Aside0.mk H
                clear H
                go_wp2_with (first | (go_at_call 19; (with_reducible refine (level_Params.calls k a0 t164 _ A13.out).mono ?_); rintro e w19 ⟨rfl, hb⟩; have n0_ := Aside0.mk (below_step (by repeat (first | (with_reducible first | exact HB.out | apply below_alloc | apply pw_below_drewN | apply below_drew1) | exact HB.out)) hb); clear HB; have HB := n0_; clear n0_; (try clear hb); (try clear hb2); (try clear hk); (try clear hi)) | (go_at_call 17; (with_reducible refine (level_Name.calls k a1 t165 _ A18.out).mono ?_); rintro e w20 ⟨rfl, hb⟩; have n0_ := Aside0.mk (below_step (by repeat (first | (with_reducible first | exact HB.out | apply below_alloc | apply pw_below_drewN | apply below_drew1) | exact HB.out)) hb); clear HB; have HB := n0_; clear n0_; (try clear hb); (try clear hb2); (try clear hk); (try clear hi)))
                go_meet
                case rel => exact ⟨_, ((t165.toList == t161.toList)), (by first | rfl | (simp; done) | (simp [*]; done)), H', ⟨by first | omega | exact Nat.le_refl _⟩, ⟨by repeat (first | (with_reducible first | exact HB.out | apply below_alloc | apply pw_below_drewN | apply below_drew1) | exact HB.out)⟩⟩
          · rw [if_neg c12] at H
            have c12b0 : (t162 == a0) = false := beq_eq_false_iff_ne.mpr c12
            have c12b1 : (t162 != a0) = true := bne_iff_ne.mpr c12
            (first | rw [c12b0] | (simp only [i64_w, i32_w]; rw [c12b0]) | skip)
            have H' := Aside0.mk H
            clear H
            go_wp2
            go_meet
            case rel => exact ⟨_, (true), (by first | rfl | (simp; done) | (simp [*]; done)), H', ⟨by first | omega | exact Nat.le_refl _⟩, ⟨by repeat (first | (with_reducible first | exact HB.out | apply below_alloc | apply pw_below_drewN | apply below_drew1) | exact HB.out)⟩⟩
        · replace c11 := Bool.eq_false_iff.mpr c11
          subst c11
          have H1 : (tappetlaw17_LevelBack.j0 k a0 a1 a2 true) = some r := by rw [if_neg (show ¬ (false = true) by decide)] at H; exact H
          clear H
          have H := H1
          clear H1
          have H' := Aside0.mk H
          clear H
          go_wp2
          go_meet
          case rel => exact ⟨_, (true), (by first | rfl | (simp; done) | (simp [*]; done)), H', ⟨by first | omega | exact Nat.le_refl _⟩, ⟨by repeat (first | (with_reducible first | exact HB.out | apply below_alloc | apply pw_below_drewN | apply below_drew1) | exact HB.out)⟩⟩
      case rest =>
        clear HC9
        try clear c1
        try clear p2
        try clear c4
        try clear c7
        try clear c7b0
        try clear c7b1
        try clear c11
        try clear c12
        try clear c12b0
        try clear c12b1
        try clear c14
        try clear c14b0
        try clear c16
        try clear c16b0
        try clear c16b1
        try clear c17
        try clear c18
        obtain ⟨kq, x46_8, rfl, HA, HJ8, HB⟩ := hcut
        cases kq with
        | zero => exact absurd HA.out (by simp [tappetlaw17_LevelBack.j0])
        | succ kj8 =>
          have H := HA.out
          clear HA
          simp only [tappetlaw17_LevelBack.j0] at H
          by_cases c21 : x46_8 = true
          · subst c21
            have H1 : (some false) = some r := by rw [if_pos rfl] at H; exact H
            clear H
            have H := H1
            clear H1
            obtain rfl := Option.some.inj H
            go_wp2
            go_ret
            exact ⟨by first | rfl | (simp [errW_none, errW_some] <;> rfl) | (simp [*, errW_none, errW_some] <;> rfl), by repeat (first | (with_reducible first | exact HB.out | apply below_alloc | apply pw_below_drewN | apply below_drew1) | exact HB.out)⟩
          · replace c21 := Bool.eq_false_iff.mpr c21
            subst c21
            have H1 : ((level_May.f kj8 a0 1).bind fun t166 => (if (t166 != (a0 != 1)) = true then (some false) else (tappetlaw17_LevelBack.j1 kj8 a0 a1 a2))) = some r := by rw [if_neg (show ¬ (false = true) by decide)] at H; exact H
            clear H
            have H := H1
            clear H1
            replace H := Option.bind_eq_some_iff.mp H
            obtain ⟨t166, A220, H⟩ := H
            replace H : (if (t166 != (a0 != 1)) = true then (some false) else (tappetlaw17_LevelBack.j1 kj8 a0 a1 a2)) = some r := H
            have A22 := Aside0.mk A220
            clear A220
            by_cases c23 : (t166 != (a0 != 1)) = true
            · rw [if_pos c23] at H
              have c23b0 : (t166 != (a0 != 1)) = true := c23
              (try (have c23b1 : decide (t166 = (a0 != 1)) = false := by simpa using c23))
              (try (have c23b2 : (t166 == (a0 != 1)) = false := by simpa using c23))
              (try (have c23b3 : ¬ (t166 = (a0 != 1)) := by simpa using c23))
              clear c23
              obtain rfl := Option.some.inj H
              go_wp2_with (first | ((with_reducible refine gate_callee (f := 20) rfl ?_); refine goesL_ (some 48) rfl rfl Try.func20 (by kernel_rfl) rfl #[.int .i64 a0, .int .i64 1] rfl (by (try simp only [List.map_toArray, List.map_cons, List.map_nil]); first | done | rfl | (simp only [List.length_drop, List.length_take]; rfl)) ?_; (with_reducible refine (level_May.calls kj8 a0 1 t166 _ A22.out).mono ?_); rintro e w24 ⟨rfl, hb⟩; refine ⟨_, rfl, ?_⟩; have n0_ := Aside0.mk (below_step (by repeat (first | (with_reducible first | exact HB.out | apply below_alloc | apply pw_below_drewN | apply below_drew1) | exact HB.out)) hb); clear HB; have HB := n0_; clear n0_; (try clear hb); (try clear hb2); (try clear hk); (try clear hi)))
              go_ret
              exact ⟨by first | rfl | (simp [errW_none, errW_some] <;> rfl) | (simp [*, errW_none, errW_some] <;> rfl), by repeat (first | (with_reducible first | exact HB.out | apply below_alloc | apply pw_below_drewN | apply below_drew1) | exact HB.out)⟩
            · rw [if_neg c23] at H
              have c23b0 : (t166 != (a0 != 1)) = false := by simpa using c23
              (try (have c23b1 : decide (t166 = (a0 != 1)) = true := by simpa using c23))
              (try (have c23b2 : (t166 == (a0 != 1)) = true := by simpa using c23))
              clear c23
              have H' := Aside0.mk H
              clear H
              go_wp2_with (first | ((with_reducible refine gate_callee (f := 20) rfl ?_); refine goesL_ (some 48) rfl rfl Try.func20 (by kernel_rfl) rfl #[.int .i64 a0, .int .i64 1] rfl (by (try simp only [List.map_toArray, List.map_cons, List.map_nil]); first | done | rfl | (simp only [List.length_drop, List.length_take]; rfl)) ?_; (with_reducible refine (level_May.calls kj8 a0 1 t166 _ A22.out).mono ?_); rintro e w25 ⟨rfl, hb⟩; refine ⟨_, rfl, ?_⟩; have n0_ := Aside0.mk (below_step (by repeat (first | (with_reducible first | exact HB.out | apply below_alloc | apply pw_below_drewN | apply below_drew1) | exact HB.out)) hb); clear HB; have HB := n0_; clear n0_; (try clear hb); (try clear hb2); (try clear hk); (try clear hi)))
              go_meet
              case rel => exact ⟨_, H', ⟨by have := HJ8.out; first | omega | exact Nat.le_refl _⟩, ⟨by repeat (first | (with_reducible first | exact HB.out | apply below_alloc | apply pw_below_drewN | apply below_drew1) | exact HB.out)⟩⟩
  case rest =>
    clear HC5
    try clear c1
    try clear c2
    try clear p2
    try clear c4
    try clear c7
    try clear c7b0
    try clear c7b1
    try clear c11
    try clear c12
    try clear c12b0
    try clear c12b1
    try clear c14
    try clear c14b0
    try clear c16
    try clear c16b0
    try clear c16b1
    try clear c17
    try clear c18
    try clear c20
    try clear c21
    try clear c23
    try clear c23b0
    try clear c23b1
    try clear c23b2
    try clear p2
    obtain ⟨kq, HA, HJ4, HB⟩ := hcut
    cases kq with
    | zero => exact absurd HA.out (by simp [tappetlaw17_LevelBack.j1])
    | succ kj4 =>
      have H := HA.out
      clear HA
      simp only [tappetlaw17_LevelBack.j1] at H
      replace H := Option.bind_eq_some_iff.mp H
      obtain ⟨t167, A260, H⟩ := H
      replace H : (if t167.toList = ([] : List UInt8) then (tappetlaw17_LevelBack.j2 kj4 a0 a2) else ((level_StatusOf.f t167).bind fun bt168 => (if bt168.2 = true then (if bt168.1 = a0 then (if a0 = a1 then (tappetlaw17_LevelBack.j2 kj4 a0 a2) else ((level_Status.f a1).bind fun t170 => (if t170.toList = t167.toList then (some false) else (tappetlaw17_LevelBack.j2 kj4 a0 a2)))) else (some false)) else (some false)))) = some r := H
      have A26 := Aside0.mk A260
      clear A260
      have HC27 := Aside0.mk H
      clear H
      go_upto_if 55 with (first | ((with_reducible refine gate_callee (f := 10) rfl ?_); refine goesL_ (some 53) rfl rfl Try.func10 (by kernel_rfl) rfl #[.int .i64 a0] rfl (by (try simp only [List.map_toArray, List.map_cons, List.map_nil]); first | done | rfl | (simp only [List.length_drop, List.length_take]; rfl)) ?_; (with_reducible refine (level_Status.calls a0 t167 _ A26.out).mono ?_); rintro e w28 ⟨rfl, hb⟩; refine ⟨_, rfl, ?_⟩; have n0_ := Aside0.mk (below_step (by repeat (first | (with_reducible first | exact HB.out | apply below_alloc | apply pw_below_drewN | apply below_drew1) | exact HB.out)) hb); clear HB; have HB := n0_; clear n0_; (try clear hb); (try clear hb2); (try clear hk); (try clear hi)))
      (try simp only [Act.put, List.setIfInBounds_toArray, List.set_cons_zero, List.set_cons_succ])
      go_cut [] (fun wc => ∃ (kq : Nat), Aside0 (tappetlaw17_LevelBack.j2 kq a0 a2 = some r) ∧ Aside0 (kq ≤ kj4) ∧ Aside0 (Below w.heap.size w wc))
      case first =>
        have H := HC27.out
        clear HC27
        by_cases c29 : t167.toList = ([] : List UInt8)
        · rw [if_pos c29] at H
          have c29b0 : (t167.toList == ([] : List UInt8)) = true := beq_iff_eq.mpr c29
          have c29bE : t167.toList.isEmpty = true := by simpa using c29b0
          have c29b1 : (t167.toList != ([] : List UInt8)) = false := bne_eq_false_iff_eq.mpr c29
          clear c29
          (first | rw [c29b0] | (simp only [i64_w, i32_w]; rw [c29b0]) | skip)
          (try rw [c29bE]; try simp only [Bool.not_true, Bool.not_false])
          have H' := Aside0.mk H
          clear H
          go_wp2
          go_meet
          case rel => exact ⟨_, H', ⟨by have := HJ4.out; first | omega | exact Nat.le_refl _⟩, ⟨by repeat (first | (with_reducible first | exact HB.out | apply below_alloc | apply pw_below_drewN | apply below_drew1) | exact HB.out)⟩⟩
        · rw [if_neg c29] at H
          have c29b0 : (t167.toList == ([] : List UInt8)) = false := beq_eq_false_iff_ne.mpr c29
          have c29bE : t167.toList.isEmpty = false := by simpa using c29b0
          have c29b1 : (t167.toList != ([] : List UInt8)) = true := bne_iff_ne.mpr c29
          (first | rw [c29b0] | (simp only [i64_w, i32_w]; rw [c29b0]) | skip)
          (try rw [c29bE]; try simp only [Bool.not_true, Bool.not_false])
          replace H := Option.bind_eq_some_iff.mp H
          obtain ⟨⟨t168, t169⟩, A300, H⟩ := H
          replace H : (if t169 = true then (if t168 = a0 then (if a0 = a1 then (tappetlaw17_LevelBack.j2 kj4 a0 a2) else ((level_Status.f a1).bind fun t170 => (if t170.toList = t167.toList then (some false) else (tappetlaw17_LevelBack.j2 kj4 a0 a2)))) else (some false)) else (some false)) = some r := H
          have A30 := Aside0.mk A300
          clear A300
          by_cases c31 : t169 = true
          · subst c31
            have H1 : (if t168 = a0 then (if a0 = a1 then (tappetlaw17_LevelBack.j2 kj4 a0 a2) else ((level_Status.f a1).bind fun t170 => (if t170.toList = t167.toList then (some false) else (tappetlaw17_LevelBack.j2 kj4 a0 a2)))) else (some false)) = some r := by rw [if_pos rfl] at H; exact H
            clear H
            have H := H1
            clear H1
            by_cases c32 : t168 = a0
            · rw [if_pos c32] at H
              have c32b0 : (t168 == a0) = true := beq_iff_eq.mpr c32
              have c32b1 : (t168 != a0) = false := bne_eq_false_iff_eq.mpr c32
              clear c32
              by_cases c33 : a0 = a1
              · rw [if_pos c33] at H
                have c33b0 : (a0 == a1) = true := beq_iff_eq.mpr c33
                have c33b1 : (a0 != a1) = false := bne_eq_false_iff_eq.mpr c33
                clear c33
                have H' := Aside0.mk H
                clear H
                go_wp2_with (first | ((with_reducible refine gate_callee (f := 6) rfl ?_); refine goesL_ (some 58) rfl rfl Try.func6 (by kernel_rfl) rfl #[.string t167] rfl (by (try simp only [List.map_toArray, List.map_cons, List.map_nil]); first | done | rfl | (simp only [List.length_drop, List.length_take]; rfl)) ?_; (with_reducible refine (level_StatusOf.calls t167 t168 true _ A30.out).mono ?_); rintro e w34 ⟨rfl, hb⟩; refine ⟨_, rfl, ?_⟩; have n0_ := Aside0.mk (below_step (by repeat (first | (with_reducible first | exact HB.out | apply below_alloc | apply pw_below_drewN | apply below_drew1) | exact HB.out)) hb); clear HB; have HB := n0_; clear n0_; (try clear hb); (try clear hb2); (try clear hk); (try clear hi)))
                go_meet
                case rel => exact ⟨_, H', ⟨by have := HJ4.out; first | omega | exact Nat.le_refl _⟩, ⟨by repeat (first | (with_reducible first | exact HB.out | apply below_alloc | apply pw_below_drewN | apply below_drew1) | exact HB.out)⟩⟩
              · rw [if_neg c33] at H
                have c33b0 : (a0 == a1) = false := beq_eq_false_iff_ne.mpr c33
                have c33b1 : (a0 != a1) = true := bne_iff_ne.mpr c33
                replace H := Option.bind_eq_some_iff.mp H
                obtain ⟨t170, A350, H⟩ := H
                replace H : (if t170.toList = t167.toList then (some false) else (tappetlaw17_LevelBack.j2 kj4 a0 a2)) = some r := H
                have A35 := Aside0.mk A350
                clear A350
                by_cases c36 : t170.toList = t167.toList
                · rw [if_pos c36] at H
                  have c36b0 : (t170.toList == t167.toList) = true := beq_iff_eq.mpr c36
                  have c36b1 : (t170.toList != t167.toList) = false := bne_eq_false_iff_eq.mpr c36
                  clear c36
                  obtain rfl := Option.some.inj H
                  go_wp2_with (first | ((with_reducible refine gate_callee (f := 6) rfl ?_); refine goesL_ (some 58) rfl rfl Try.func6 (by kernel_rfl) rfl #[.string t167] rfl (by (try simp only [List.map_toArray, List.map_cons, List.map_nil]); first | done | rfl | (simp only [List.length_drop, List.length_take]; rfl)) ?_; (with_reducible refine (level_StatusOf.calls t167 t168 true _ A30.out).mono ?_); rintro e w37 ⟨rfl, hb⟩; refine ⟨_, rfl, ?_⟩; have n0_ := Aside0.mk (below_step (by repeat (first | (with_reducible first | exact HB.out | apply below_alloc | apply pw_below_drewN | apply below_drew1) | exact HB.out)) hb); clear HB; have HB := n0_; clear n0_; (try clear hb); (try clear hb2); (try clear hk); (try clear hi)) | (go_at_call 10; (with_reducible refine (level_Status.calls a1 t170 _ A35.out).mono ?_); rintro e w38 ⟨rfl, hb⟩; have n0_ := Aside0.mk (below_step (by repeat (first | (with_reducible first | exact HB.out | apply below_alloc | apply pw_below_drewN | apply below_drew1) | exact HB.out)) hb); clear HB; have HB := n0_; clear n0_; (try clear hb); (try clear hb2); (try clear hk); (try clear hi)))
                  go_ret
                  exact ⟨by first | rfl | (simp [errW_none, errW_some] <;> rfl) | (simp [*, errW_none, errW_some] <;> rfl), by repeat (first | (with_reducible first | exact HB.out | apply below_alloc | apply pw_below_drewN | apply below_drew1) | exact HB.out)⟩
                · rw [if_neg c36] at H
                  have c36b0 : (t170.toList == t167.toList) = false := beq_eq_false_iff_ne.mpr c36
                  have c36b1 : (t170.toList != t167.toList) = true := bne_iff_ne.mpr c36
                  have H' := Aside0.mk H
                  clear H
                  go_wp2_with (first | ((with_reducible refine gate_callee (f := 6) rfl ?_); refine goesL_ (some 58) rfl rfl Try.func6 (by kernel_rfl) rfl #[.string t167] rfl (by (try simp only [List.map_toArray, List.map_cons, List.map_nil]); first | done | rfl | (simp only [List.length_drop, List.length_take]; rfl)) ?_; (with_reducible refine (level_StatusOf.calls t167 t168 true _ A30.out).mono ?_); rintro e w39 ⟨rfl, hb⟩; refine ⟨_, rfl, ?_⟩; have n0_ := Aside0.mk (below_step (by repeat (first | (with_reducible first | exact HB.out | apply below_alloc | apply pw_below_drewN | apply below_drew1) | exact HB.out)) hb); clear HB; have HB := n0_; clear n0_; (try clear hb); (try clear hb2); (try clear hk); (try clear hi)) | (go_at_call 10; (with_reducible refine (level_Status.calls a1 t170 _ A35.out).mono ?_); rintro e w40 ⟨rfl, hb⟩; have n0_ := Aside0.mk (below_step (by repeat (first | (with_reducible first | exact HB.out | apply below_alloc | apply pw_below_drewN | apply below_drew1) | exact HB.out)) hb); clear HB; have HB := n0_; clear n0_; (try clear hb); (try clear hb2); (try clear hk); (try clear hi)))
                  go_meet
                  case rel => exact ⟨_, H', ⟨by have := HJ4.out; first | omega | exact Nat.le_refl _⟩, ⟨by repeat (first | (with_reducible first | exact HB.out | apply below_alloc | apply pw_below_drewN | apply below_drew1) | exact HB.out)⟩⟩
            · rw [if_neg c32] at H
              have c32b0 : (t168 == a0) = false := beq_eq_false_iff_ne.mpr c32
              have c32b1 : (t168 != a0) = true := bne_iff_ne.mpr c32
              obtain rfl := Option.some.inj H
              go_wp2_with (first | ((with_reducible refine gate_callee (f := 6) rfl ?_); refine goesL_ (some 58) rfl rfl Try.func6 (by kernel_rfl) rfl #[.string t167] rfl (by (try simp only [List.map_toArray, List.map_cons, List.map_nil]); first | done | rfl | (simp only [List.length_drop, List.length_take]; rfl)) ?_; (with_reducible refine (level_StatusOf.calls t167 t168 true _ A30.out).mono ?_); rintro e w41 ⟨rfl, hb⟩; refine ⟨_, rfl, ?_⟩; have n0_ := Aside0.mk (below_step (by repeat (first | (with_reducible first | exact HB.out | apply below_alloc | apply pw_below_drewN | apply below_drew1) | exact HB.out)) hb); clear HB; have HB := n0_; clear n0_; (try clear hb); (try clear hb2); (try clear hk); (try clear hi)))
              go_ret
              exact ⟨by first | rfl | (simp [errW_none, errW_some] <;> rfl) | (simp [*, errW_none, errW_some] <;> rfl), by repeat (first | (with_reducible first | exact HB.out | apply below_alloc | apply pw_below_drewN | apply below_drew1) | exact HB.out)⟩
          · replace c31 := Bool.eq_false_iff.mpr c31
            subst c31
            have H1 : (some false) = some r := by rw [if_neg (show ¬ (false = true) by decide)] at H; exact H
            clear H
            have H := H1
            clear H1
            obtain rfl := Option.some.inj H
            go_wp2_with (first | ((with_reducible refine gate_callee (f := 6) rfl ?_); refine goesL_ (some 58) rfl rfl Try.func6 (by kernel_rfl) rfl #[.string t167] rfl (by (try simp only [List.map_toArray, List.map_cons, List.map_nil]); first | done | rfl | (simp only [List.length_drop, List.length_take]; rfl)) ?_; (with_reducible refine (level_StatusOf.calls t167 t168 false _ A30.out).mono ?_); rintro e w42 ⟨rfl, hb⟩; refine ⟨_, rfl, ?_⟩; have n0_ := Aside0.mk (below_step (by repeat (first | (with_reducible first | exact HB.out | apply below_alloc | apply pw_below_drewN | apply below_drew1) | exact HB.out)) hb); clear HB; have HB := n0_; clear n0_; (try clear hb); (try clear hb2); (try clear hk); (try clear hi)))
            go_ret
            exact ⟨by first | rfl | (simp [errW_none, errW_some] <;> rfl) | (simp [*, errW_none, errW_some] <;> rfl), by repeat (first | (with_reducible first | exact HB.out | apply below_alloc | apply pw_below_drewN | apply below_drew1) | exact HB.out)⟩
      case rest =>
        clear HC27
        try clear c1
        try clear c2
        try clear p2
        try clear c3
        try clear c4
        try clear c6
        try clear c7
        try clear c7b0
        try clear c7b1
        try clear c10
        try clear c11
        try clear c12
        try clear c12b0
        try clear c12b1
        try clear c14
        try clear c14b0
        try clear c16
        try clear c16b0
        try clear c16b1
        try clear c17
        try clear c18
        try clear c20
        try clear c21
        try clear c23
        try clear c23b0
        try clear c23b1
        try clear c23b2
        try clear c29
        try clear c29b0
        try clear c29b1
        try clear c31
        try clear c32
        try clear c32b0
        try clear c32b1
        try clear c33
        try clear c33b0
        try clear c33b1
        try clear c36
        try clear c36b0
        try clear c36b1
        try clear p2
        obtain ⟨kq, HA, HJ26, HB⟩ := hcut
        cases kq with
        | zero => exact absurd HA.out (by simp [tappetlaw17_LevelBack.j2])
        | succ kj26 =>
          have H := HA.out
          clear HA
          simp only [tappetlaw17_LevelBack.j2] at H
          have HC43 := Aside0.mk H
          clear H
          go_upto_region 13 with (fail)
          go_cut [13] (fun v13 wc => ∃ (kq : Nat) (x13_42 : Bool), v13 = .bool x13_42 ∧ Aside0 (tappetlaw17_LevelBack.j3 kq a0 a2 x13_42 = some r) ∧ Aside0 (kq ≤ kj26) ∧ Aside0 (Below w.heap.size w wc))
          case first =>
            have H := HC43.out
            clear HC43
            by_cases c44 : a2 ≥ 4
            · rw [if_pos c44] at H
              have c44b0 : decide (4 ≤ a2) = true := decide_eq_true c44
              clear c44
              (first | rw [c44b0] | (simp only [i64_w, i32_w]; rw [c44b0]) | skip)
              have H' := Aside0.mk H
              clear H
              go_wp2
              go_meet
              case rel => exact ⟨_, (decide (a2 ≤ 8)), (by first | rfl | (simp; done) | (simp [*]; done)), H', ⟨by have := HJ4.out; have := HJ26.out; first | omega | exact Nat.le_refl _⟩, ⟨by repeat (first | (with_reducible first | exact HB.out | apply below_alloc | apply pw_below_drewN | apply below_drew1) | exact HB.out)⟩⟩
            · rw [if_neg c44] at H
              have c44b0 : decide (4 ≤ a2) = false := decide_eq_false c44
              clear c44
              (first | rw [c44b0] | (simp only [i64_w, i32_w]; rw [c44b0]) | skip)
              have H' := Aside0.mk H
              clear H
              go_wp2
              go_meet
              case rel => exact ⟨_, (false), (by first | rfl | (simp; done) | (simp [*]; done)), H', ⟨by have := HJ4.out; have := HJ26.out; first | omega | exact Nat.le_refl _⟩, ⟨by repeat (first | (with_reducible first | exact HB.out | apply below_alloc | apply pw_below_drewN | apply below_drew1) | exact HB.out)⟩⟩
          case rest =>
            clear HC43
            try clear c1
            try clear c2
            try clear p2
            try clear c3
            try clear c4
            try clear c6
            try clear c7
            try clear c7b0
            try clear c7b1
            try clear c10
            try clear c11
            try clear c12
            try clear c12b0
            try clear c12b1
            try clear c14
            try clear c14b0
            try clear c16
            try clear c16b0
            try clear c16b1
            try clear c17
            try clear c18
            try clear c20
            try clear c21
            try clear c23
            try clear c23b0
            try clear c23b1
            try clear c23b2
            try clear c29
            try clear c29b0
            try clear c29b1
            try clear c31
            try clear c32
            try clear c32b0
            try clear c32b1
            try clear c33
            try clear c33b0
            try clear c33b1
            try clear c36
            try clear c36b0
            try clear c36b1
            try clear c44
            try clear c44b0
            try clear p2
            obtain ⟨kq, x13_42, rfl, HA, HJ42, HB⟩ := hcut
            cases kq with
            | zero => exact absurd HA.out (by simp [tappetlaw17_LevelBack.j3])
            | succ kj42 =>
              have H := HA.out
              clear HA
              simp only [tappetlaw17_LevelBack.j3] at H
              have HC45 := Aside0.mk H
              clear H
              go_upto_region 14 with (fail)
              go_cut [14] (fun v14 wc => ∃ (kq : Nat) (x14_44 : Bool), v14 = .bool x14_44 ∧ Aside0 (tappetlaw17_LevelBack.j4 kq a0 a2 x13_42 x14_44 = some r) ∧ Aside0 (kq ≤ kj42) ∧ Aside0 (Below w.heap.size w wc))
              case first =>
                have H := HC45.out
                clear HC45
                by_cases c46 : a0 ≥ 4
                · rw [if_pos c46] at H
                  have c46b0 : decide (4 ≤ a0) = true := decide_eq_true c46
                  clear c46
                  (first | rw [c46b0] | (simp only [i64_w, i32_w]; rw [c46b0]) | skip)
                  by_cases c47 : a0 ≤ 7
                  · rw [if_pos c47] at H
                    have c47b0 : decide (a0 ≤ 7) = true := decide_eq_true c47
                    clear c47
                    have H' := Aside0.mk H
                    clear H
                    go_wp2
                    go_meet
                    case rel => exact ⟨_, (true), (by first | rfl | (simp; done) | (simp [*]; done)), H', ⟨by have := HJ4.out; have := HJ26.out; have := HJ42.out; first | omega | exact Nat.le_refl _⟩, ⟨by repeat (first | (with_reducible first | exact HB.out | apply below_alloc | apply pw_below_drewN | apply below_drew1) | exact HB.out)⟩⟩
                  · rw [if_neg c47] at H
                    have c47b0 : decide (a0 ≤ 7) = false := decide_eq_false c47
                    clear c47
                    by_cases c48 : a0 ≥ 16
                    · rw [if_pos c48] at H
                      have c48b0 : decide (16 ≤ a0) = true := decide_eq_true c48
                      clear c48
                      by_cases c49 : a0 ≤ 19
                      · rw [if_pos c49] at H
                        have c49b0 : decide (a0 ≤ 19) = true := decide_eq_true c49
                        clear c49
                        have H' := Aside0.mk H
                        clear H
                        go_wp2
                        go_meet
                        case rel => exact ⟨_, (true), (by first | rfl | (simp; done) | (simp [*]; done)), H', ⟨by have := HJ4.out; have := HJ26.out; have := HJ42.out; first | omega | exact Nat.le_refl _⟩, ⟨by repeat (first | (with_reducible first | exact HB.out | apply below_alloc | apply pw_below_drewN | apply below_drew1) | exact HB.out)⟩⟩
                      · rw [if_neg c49] at H
                        have c49b0 : decide (a0 ≤ 19) = false := decide_eq_false c49
                        clear c49
                        by_cases c50 : a0 = 21
                        · rw [if_pos c50] at H
                          have c50b0 : (a0 == 21) = true := beq_iff_eq.mpr c50
                          have c50b1 : (a0 != 21) = false := bne_eq_false_iff_eq.mpr c50
                          clear c50
                          have H' := Aside0.mk H
                          clear H
                          go_wp2
                          go_meet
                          case rel => exact ⟨_, (true), (by first | rfl | (simp; done) | (simp [*]; done)), H', ⟨by have := HJ4.out; have := HJ26.out; have := HJ42.out; first | omega | exact Nat.le_refl _⟩, ⟨by repeat (first | (with_reducible first | exact HB.out | apply below_alloc | apply pw_below_drewN | apply below_drew1) | exact HB.out)⟩⟩
                        · rw [if_neg c50] at H
                          have c50b0 : (a0 == 21) = false := beq_eq_false_iff_ne.mpr c50
                          have c50b1 : (a0 != 21) = true := bne_iff_ne.mpr c50
                          by_cases c51 : a0 ≥ 24
                          · rw [if_pos c51] at H
                            have c51b0 : decide (24 ≤ a0) = true := decide_eq_true c51
                            clear c51
                            have H' := Aside0.mk H
                            clear H
                            go_wp2
                            go_meet
                            case rel => exact ⟨_, (decide (a0 ≤ 26)), (by first | rfl | (simp; done) | (simp [*]; done)), H', ⟨by have := HJ4.out; have := HJ26.out; have := HJ42.out; first | omega | exact Nat.le_refl _⟩, ⟨by repeat (first | (with_reducible first | exact HB.out | apply below_alloc | apply pw_below_drewN | apply below_drew1) | exact HB.out)⟩⟩
                          · rw [if_neg c51] at H
                            have c51b0 : decide (24 ≤ a0) = false := decide_eq_false c51
                            clear c51
                            have H' := Aside0.mk H
                            clear H
                            go_wp2
                            go_meet
                            case rel => exact ⟨_, (false), (by first | rfl | (simp; done) | (simp [*]; done)), H', ⟨by have := HJ4.out; have := HJ26.out; have := HJ42.out; first | omega | exact Nat.le_refl _⟩, ⟨by repeat (first | (with_reducible first | exact HB.out | apply below_alloc | apply pw_below_drewN | apply below_drew1) | exact HB.out)⟩⟩
                    · rw [if_neg c48] at H
                      have c48b0 : decide (16 ≤ a0) = false := decide_eq_false c48
                      clear c48
                      by_cases c52 : a0 = 21
                      · rw [if_pos c52] at H
                        have c52b0 : (a0 == 21) = true := beq_iff_eq.mpr c52
                        have c52b1 : (a0 != 21) = false := bne_eq_false_iff_eq.mpr c52
                        clear c52
                        have H' := Aside0.mk H
                        clear H
                        go_wp2
                        go_meet
                        case rel => exact ⟨_, (true), (by first | rfl | (simp; done) | (simp [*]; done)), H', ⟨by have := HJ4.out; have := HJ26.out; have := HJ42.out; first | omega | exact Nat.le_refl _⟩, ⟨by repeat (first | (with_reducible first | exact HB.out | apply below_alloc | apply pw_below_drewN | apply below_drew1) | exact HB.out)⟩⟩
                      · rw [if_neg c52] at H
                        have c52b0 : (a0 == 21) = false := beq_eq_false_iff_ne.mpr c52
                        have c52b1 : (a0 != 21) = true := bne_iff_ne.mpr c52
                        by_cases c53 : a0 ≥ 24
                        · rw [if_pos c53] at H
                          have c53b0 : decide (24 ≤ a0) = true := decide_eq_true c53
                          clear c53
                          have H' := Aside0.mk H
                          clear H
                          go_wp2
                          go_meet
                          case rel => exact ⟨_, (decide (a0 ≤ 26)), (by first | rfl | (simp; done) | (simp [*]; done)), H', ⟨by have := HJ4.out; have := HJ26.out; have := HJ42.out; first | omega | exact Nat.le_refl _⟩, ⟨by repeat (first | (with_reducible first | exact HB.out | apply below_alloc | apply pw_below_drewN | apply below_drew1) | exact HB.out)⟩⟩
                        · rw [if_neg c53] at H
                          have c53b0 : decide (24 ≤ a0) = false := decide_eq_false c53
                          clear c53
                          have H' := Aside0.mk H
                          clear H
                          go_wp2
                          go_meet
                          case rel => exact ⟨_, (false), (by first | rfl | (simp; done) | (simp [*]; done)), H', ⟨by have := HJ4.out; have := HJ26.out; have := HJ42.out; first | omega | exact Nat.le_refl _⟩, ⟨by repeat (first | (with_reducible first | exact HB.out | apply below_alloc | apply pw_below_drewN | apply below_drew1) | exact HB.out)⟩⟩
                · rw [if_neg c46] at H
                  have c46b0 : decide (4 ≤ a0) = false := decide_eq_false c46
                  clear c46
                  (first | rw [c46b0] | (simp only [i64_w, i32_w]; rw [c46b0]) | skip)
                  by_cases c54 : a0 ≥ 16
                  · rw [if_pos c54] at H
                    have c54b0 : decide (16 ≤ a0) = true := decide_eq_true c54
                    clear c54
                    by_cases c55 : a0 ≤ 19
                    · rw [if_pos c55] at H
                      have c55b0 : decide (a0 ≤ 19) = true := decide_eq_true c55
                      clear c55
                      have H' := Aside0.mk H
                      clear H
                      go_wp2
                      go_meet
                      case rel => exact ⟨_, (true), (by first | rfl | (simp; done) | (simp [*]; done)), H', ⟨by have := HJ4.out; have := HJ26.out; have := HJ42.out; first | omega | exact Nat.le_refl _⟩, ⟨by repeat (first | (with_reducible first | exact HB.out | apply below_alloc | apply pw_below_drewN | apply below_drew1) | exact HB.out)⟩⟩
                    · rw [if_neg c55] at H
                      have c55b0 : decide (a0 ≤ 19) = false := decide_eq_false c55
                      clear c55
                      by_cases c56 : a0 = 21
                      · rw [if_pos c56] at H
                        have c56b0 : (a0 == 21) = true := beq_iff_eq.mpr c56
                        have c56b1 : (a0 != 21) = false := bne_eq_false_iff_eq.mpr c56
                        clear c56
                        have H' := Aside0.mk H
                        clear H
                        go_wp2
                        go_meet
                        case rel => exact ⟨_, (true), (by first | rfl | (simp; done) | (simp [*]; done)), H', ⟨by have := HJ4.out; have := HJ26.out; have := HJ42.out; first | omega | exact Nat.le_refl _⟩, ⟨by repeat (first | (with_reducible first | exact HB.out | apply below_alloc | apply pw_below_drewN | apply below_drew1) | exact HB.out)⟩⟩
                      · rw [if_neg c56] at H
                        have c56b0 : (a0 == 21) = false := beq_eq_false_iff_ne.mpr c56
                        have c56b1 : (a0 != 21) = true := bne_iff_ne.mpr c56
                        by_cases c57 : a0 ≥ 24
                        · rw [if_pos c57] at H
                          have c57b0 : decide (24 ≤ a0) = true := decide_eq_true c57
                          clear c57
                          have H' := Aside0.mk H
                          clear H
                          go_wp2
                          go_meet
                          case rel => exact ⟨_, (decide (a0 ≤ 26)), (by first | rfl | (simp; done) | (simp [*]; done)), H', ⟨by have := HJ4.out; have := HJ26.out; have := HJ42.out; first | omega | exact Nat.le_refl _⟩, ⟨by repeat (first | (with_reducible first | exact HB.out | apply below_alloc | apply pw_below_drewN | apply below_drew1) | exact HB.out)⟩⟩
                        · rw [if_neg c57] at H
                          have c57b0 : decide (24 ≤ a0) = false := decide_eq_false c57
                          clear c57
                          have H' := Aside0.mk H
                          clear H
                          go_wp2
                          go_meet
                          case rel => exact ⟨_, (false), (by first | rfl | (simp; done) | (simp [*]; done)), H', ⟨by have := HJ4.out; have := HJ26.out; have := HJ42.out; first | omega | exact Nat.le_refl _⟩, ⟨by repeat (first | (with_reducible first | exact HB.out | apply below_alloc | apply pw_below_drewN | apply below_drew1) | exact HB.out)⟩⟩
                  · rw [if_neg c54] at H
                    have c54b0 : decide (16 ≤ a0) = false := decide_eq_false c54
                    clear c54
                    by_cases c58 : a0 = 21
                    · rw [if_pos c58] at H
                      have c58b0 : (a0 == 21) = true := beq_iff_eq.mpr c58
                      have c58b1 : (a0 != 21) = false := bne_eq_false_iff_eq.mpr c58
                      clear c58
                      have H' := Aside0.mk H
                      clear H
                      go_wp2
                      go_meet
                      case rel => exact ⟨_, (true), (by first | rfl | (simp; done) | (simp [*]; done)), H', ⟨by have := HJ4.out; have := HJ26.out; have := HJ42.out; first | omega | exact Nat.le_refl _⟩, ⟨by repeat (first | (with_reducible first | exact HB.out | apply below_alloc | apply pw_below_drewN | apply below_drew1) | exact HB.out)⟩⟩
                    · rw [if_neg c58] at H
                      have c58b0 : (a0 == 21) = false := beq_eq_false_iff_ne.mpr c58
                      have c58b1 : (a0 != 21) = true := bne_iff_ne.mpr c58
                      by_cases c59 : a0 ≥ 24
                      · rw [if_pos c59] at H
                        have c59b0 : decide (24 ≤ a0) = true := decide_eq_true c59
                        clear c59
                        have H' := Aside0.mk H
                        clear H
                        go_wp2
                        go_meet
                        case rel => exact ⟨_, (decide (a0 ≤ 26)), (by first | rfl | (simp; done) | (simp [*]; done)), H', ⟨by have := HJ4.out; have := HJ26.out; have := HJ42.out; first | omega | exact Nat.le_refl _⟩, ⟨by repeat (first | (with_reducible first | exact HB.out | apply below_alloc | apply pw_below_drewN | apply below_drew1) | exact HB.out)⟩⟩
                      · rw [if_neg c59] at H
                        have c59b0 : decide (24 ≤ a0) = false := decide_eq_false c59
                        clear c59
                        have H' := Aside0.mk H
                        clear H
                        go_wp2
                        go_meet
                        case rel => exact ⟨_, (false), (by first | rfl | (simp; done) | (simp [*]; done)), H', ⟨by have := HJ4.out; have := HJ26.out; have := HJ42.out; first | omega | exact Nat.le_refl _⟩, ⟨by repeat (first | (with_reducible first | exact HB.out | apply below_alloc | apply pw_below_drewN | apply below_drew1) | exact HB.out)⟩⟩
              case rest =>
                clear HC45
                try clear c1
                try clear c2
                try clear p2
                try clear c3
                try clear c4
                try clear c5
                try clear c6
                try clear c7
                try clear c7b0
                try clear c7b1
                try clear c10
                try clear c11
                try clear c12
                try clear c12b0
                try clear c12b1
                try clear c14
                try clear c14b0
                try clear c16
                try clear c16b0
                try clear c16b1
                try clear c17
                try clear c18
                try clear c20
                try clear c21
                try clear c23
                try clear c23b0
                try clear c23b1
                try clear c23b2
                try clear c29
                try clear c29b0
                try clear c29b1
                try clear c31
                try clear c32
                try clear c32b0
                try clear c32b1
                try clear c33
                try clear c33b0
                try clear c33b1
                try clear c36
                try clear c36b0
                try clear c36b1
                try clear c44
                try clear c44b0
                try clear c46
                try clear c46b0
                try clear c47
                try clear c47b0
                try clear c48
                try clear c48b0
                try clear c49
                try clear c49b0
                try clear c50
                try clear c50b0
                try clear c50b1
                try clear c51
                try clear c51b0
                try clear c52
                try clear c52b0
                try clear c52b1
                try clear c53
                try clear c53b0
                try clear c54
                try clear c54b0
                try clear c55
                try clear c55b0
                try clear c56
                try clear c56b0
                try clear c56b1
                try clear c57
                try clear c57b0
                try clear c58
                try clear c58b0
                try clear c58b1
                try clear c59
                try clear c59b0
                try clear p2
                obtain ⟨kq, x14_44, rfl, HA, HJ44, HB⟩ := hcut
                cases kq with
                | zero => exact absurd HA.out (by simp [tappetlaw17_LevelBack.j4])
                | succ kj44 =>
                  have H := HA.out
                  clear HA
                  simp only [tappetlaw17_LevelBack.j4] at H
                  by_cases c60 : x13_42 = true
                  · subst c60
                    have H1 : (if x14_44 = true then ((level_May.f kj44 a0 a2).bind fun t171 => (if t171 = true then (some false) else ((tappetlaw17_heads.f kj44).bind fun t172 => (some t172)))) else ((tappetlaw17_heads.f kj44).bind fun t173 => (some t173))) = some r := by rw [if_pos rfl] at H; exact H
                    clear H
                    have H := H1
                    clear H1
                    by_cases c61 : x14_44 = true
                    · subst c61
                      have H1 : ((level_May.f kj44 a0 a2).bind fun t171 => (if t171 = true then (some false) else ((tappetlaw17_heads.f kj44).bind fun t172 => (some t172)))) = some r := by rw [if_pos rfl] at H; exact H
                      clear H
                      have H := H1
                      clear H1
                      replace H := Option.bind_eq_some_iff.mp H
                      obtain ⟨t171, A620, H⟩ := H
                      replace H : (if t171 = true then (some false) else ((tappetlaw17_heads.f kj44).bind fun t172 => (some t172))) = some r := H
                      have A62 := Aside0.mk A620
                      clear A620
                      by_cases c63 : t171 = true
                      · subst c63
                        have H1 : (some false) = some r := by rw [if_pos rfl] at H; exact H
                        clear H
                        have H := H1
                        clear H1
                        obtain rfl := Option.some.inj H
                        go_wp2_with (first | (go_at_call 20; (with_reducible refine (level_May.calls kj44 a0 a2 true _ A62.out).mono ?_); rintro e w64 ⟨rfl, hb⟩; have n0_ := Aside0.mk (below_step (by repeat (first | (with_reducible first | exact HB.out | apply below_alloc | apply pw_below_drewN | apply below_drew1) | exact HB.out)) hb); clear HB; have HB := n0_; clear n0_; (try clear hb); (try clear hb2); (try clear hk); (try clear hi)))
                        go_ret
                        exact ⟨by first | rfl | (simp [errW_none, errW_some] <;> rfl) | (simp [*, errW_none, errW_some] <;> rfl), by repeat (first | (with_reducible first | exact HB.out | apply below_alloc | apply pw_below_drewN | apply below_drew1) | exact HB.out)⟩
                      · replace c63 := Bool.eq_false_iff.mpr c63
                        subst c63
                        have H1 : ((tappetlaw17_heads.f kj44).bind fun t172 => (some t172)) = some r := by rw [if_neg (show ¬ (false = true) by decide)] at H; exact H
                        clear H
                        have H := H1
                        clear H1
                        replace H := Option.bind_eq_some_iff.mp H
                        obtain ⟨t172, A650, H⟩ := H
                        replace H : (some t172) = some r := H
                        have A65 := Aside0.mk A650
                        clear A650
                        obtain rfl := Option.some.inj H
                        go_wp2_with (first | (go_at_call 20; (with_reducible refine (level_May.calls kj44 a0 a2 false _ A62.out).mono ?_); rintro e w66 ⟨rfl, hb⟩; have n0_ := Aside0.mk (below_step (by repeat (first | (with_reducible first | exact HB.out | apply below_alloc | apply pw_below_drewN | apply below_drew1) | exact HB.out)) hb); clear HB; have HB := n0_; clear n0_; (try clear hb); (try clear hb2); (try clear hk); (try clear hi)) | ((with_reducible refine gate_callee (f := 16) rfl ?_); refine goesL_ (some 120) rfl rfl Try.func16 (by kernel_rfl) rfl #[] rfl (by (try simp only [List.map_toArray, List.map_cons, List.map_nil]); first | done | rfl | (simp only [List.length_drop, List.length_take]; rfl)) ?_; (with_reducible refine (tappetlaw17_heads.calls kj44  t172 _ A65.out).mono ?_); rintro e w67 ⟨rfl, hb⟩; refine ⟨_, rfl, ?_⟩; have n0_ := Aside0.mk (below_step (by repeat (first | (with_reducible first | exact HB.out | apply below_alloc | apply pw_below_drewN | apply below_drew1) | exact HB.out)) hb); clear HB; have HB := n0_; clear n0_; (try clear hb); (try clear hb2); (try clear hk); (try clear hi)))
                        go_ret
                        exact ⟨by first | rfl | (simp [errW_none, errW_some] <;> rfl) | (simp [*, errW_none, errW_some] <;> rfl), by repeat (first | (with_reducible first | exact HB.out | apply below_alloc | apply pw_below_drewN | apply below_drew1) | exact HB.out)⟩
                    · replace c61 := Bool.eq_false_iff.mpr c61
                      subst c61
                      have H1 : ((tappetlaw17_heads.f kj44).bind fun t173 => (some t173)) = some r := by rw [if_neg (show ¬ (false = true) by decide)] at H; exact H
                      clear H
                      have H := H1
                      clear H1
                      replace H := Option.bind_eq_some_iff.mp H
                      obtain ⟨t173, A680, H⟩ := H
                      replace H : (some t173) = some r := H
                      have A68 := Aside0.mk A680
                      clear A680
                      obtain rfl := Option.some.inj H
                      go_wp2_with (first | ((with_reducible refine gate_callee (f := 16) rfl ?_); refine goesL_ (some 120) rfl rfl Try.func16 (by kernel_rfl) rfl #[] rfl (by (try simp only [List.map_toArray, List.map_cons, List.map_nil]); first | done | rfl | (simp only [List.length_drop, List.length_take]; rfl)) ?_; (with_reducible refine (tappetlaw17_heads.calls kj44  t173 _ A68.out).mono ?_); rintro e w69 ⟨rfl, hb⟩; refine ⟨_, rfl, ?_⟩; have n0_ := Aside0.mk (below_step (by repeat (first | (with_reducible first | exact HB.out | apply below_alloc | apply pw_below_drewN | apply below_drew1) | exact HB.out)) hb); clear HB; have HB := n0_; clear n0_; (try clear hb); (try clear hb2); (try clear hk); (try clear hi)))
                      go_ret
                      exact ⟨by first | rfl | (simp [errW_none, errW_some] <;> rfl) | (simp [*, errW_none, errW_some] <;> rfl), by repeat (first | (with_reducible first | exact HB.out | apply below_alloc | apply pw_below_drewN | apply below_drew1) | exact HB.out)⟩
                  · replace c60 := Bool.eq_false_iff.mpr c60
                    subst c60
                    have H1 : ((tappetlaw17_heads.f kj44).bind fun t174 => (some t174)) = some r := by rw [if_neg (show ¬ (false = true) by decide)] at H; exact H
                    clear H
                    have H := H1
                    clear H1
                    replace H := Option.bind_eq_some_iff.mp H
                    obtain ⟨t174, A700, H⟩ := H
                    replace H : (some t174) = some r := H
                    have A70 := Aside0.mk A700
                    clear A700
                    obtain rfl := Option.some.inj H
                    go_wp2_with (first | ((with_reducible refine gate_callee (f := 16) rfl ?_); refine goesL_ (some 120) rfl rfl Try.func16 (by kernel_rfl) rfl #[] rfl (by (try simp only [List.map_toArray, List.map_cons, List.map_nil]); first | done | rfl | (simp only [List.length_drop, List.length_take]; rfl)) ?_; (with_reducible refine (tappetlaw17_heads.calls kj44  t174 _ A70.out).mono ?_); rintro e w71 ⟨rfl, hb⟩; refine ⟨_, rfl, ?_⟩; have n0_ := Aside0.mk (below_step (by repeat (first | (with_reducible first | exact HB.out | apply below_alloc | apply pw_below_drewN | apply below_drew1) | exact HB.out)) hb); clear HB; have HB := n0_; clear n0_; (try clear hb); (try clear hb2); (try clear hk); (try clear hi)))
                    go_ret
                    exact ⟨by first | rfl | (simp [errW_none, errW_some] <;> rfl) | (simp [*, errW_none, errW_some] <;> rfl), by repeat (first | (with_reducible first | exact HB.out | apply below_alloc | apply pw_below_drewN | apply below_drew1) | exact HB.out)⟩

/-- THE ONE PURE STATEMENT of tappetlaw17_LevelBack: yours. -/
def tappetlaw17_LevelBack.Pure : Prop := ∀ (a0 : Int) (a1 : Int) (a2 : Int), (Lit.int .i64 a0).wf = true → (Lit.int .i64 a1).wf = true → (Lit.int .i64 a2).wf = true → ∃ k, tappetlaw17_LevelBack.f k a0 a1 a2 = some true
theorem tappetlaw17_LevelBack.walk (P : tappetlaw17_LevelBack.Pure) (a0 : Int) (a1 : Int) (a2 : Int) (w : World) (w0 : (Lit.int .i64 a0).wf = true) (w1 : (Lit.int .i64 a1).wf = true) (w2 : (Lit.int .i64 a2).wf = true) :
    Calls Try.prog 4 #[.int .i64 a0, .int .i64 a1, .int .i64 a2] w fun e w' => e = .returned (.bool true) ∧ Below w.heap.size w w' := by
  obtain ⟨k, h⟩ := P a0 a1 a2 w0 w1 w2
  refine (tappetlaw17_LevelBack.calls k a0 a1 a2 true w h).mono ?_
  rintro e w' ⟨rfl, hd⟩
  exact ⟨rfl, hd⟩

end Go.Proofs.Ytkkkcpijbkjhdaa.XA
