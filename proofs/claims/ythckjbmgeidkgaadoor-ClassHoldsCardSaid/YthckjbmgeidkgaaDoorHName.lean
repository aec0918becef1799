/- is a string a name: package class by its runes, the document by its bytes. -/
import Derived.Test.YthckjbmgeidkgaaDoorHLowR
import Derived.Laws.RangeAny
import Derived.Laws.RangeString
namespace Go.Proofs.YthckjbmgeidkgaaDoor.XA
set_option linter.unusedVariables false
set_option linter.unusedSimpArgs false
open Go.RowKit Go.WideMaps Go.Maps Go.Proofs.YthckjbmgeidkgaaDoorW.PrintWords Go.Proofs.YthckjbmgeidkgaaDoorW.PrintLast Go.Proofs.YthckjbmgeidkgaaDoorW.PrintMore
def letC (c : Int) : Bool := decide (c = 95) || (decide (97 ≤ c) && decide (c ≤ 122)) || (decide (65 ≤ c) && decide (c ≤ 90))
def digC (c : Int) : Bool := decide (48 ≤ c) && decide (c ≤ 57)
def atB (s : ByteArray) (i : Nat) : Int := if h : i < s.size then ((s[i]'h).toNat : Int) else 0
def okC (c : Int) (i : Nat) : Bool := letC c || (!decide (i = 0) && digC c)
def nameAt (s : ByteArray) (i : Nat) : Bool := okC (atB s i) i
/-- is it a name? -/
def nameB (s : ByteArray) : Bool := (List.range s.size).all (nameAt s) && decide (1 ≤ s.size) && decide (s.size ≤ 63)
theorem name_no {s : ByteArray} (i : Nat) (hi : i < s.size) (h : nameAt s i = false) : nameB s = false := by
  have : (List.range s.size).all (nameAt s) = false := by
    rw [Bool.eq_false_iff]
    intro h1
    rw [List.all_eq_true] at h1
    rw [h1 i (List.mem_range.mpr hi)] at h
    cases h
  unfold nameB
  rw [this]
  rfl
theorem name_yes {s : ByteArray} (h : ∀ i, i < s.size → nameAt s i = true) : nameB s = (decide (1 ≤ s.size) && decide (s.size ≤ 63)) := by
  have : (List.range s.size).all (nameAt s) = true := by
    rw [List.all_eq_true]
    exact fun i hi => h i (List.mem_range.mp hi)
  unfold nameB
  rw [this]
  rfl
theorem below_iter (w : World) (s : ByteArray) (pos : Nat) : Below w.heap.size w (w.iter s pos) := (Below.refl _ _).alloc (Nat.le_refl _) _
theorem toList_empty (s : ByteArray) : s.toList.isEmpty = decide (s.size = 0) := by
  have : s.toList.length = s.size := by rw [ByteArray.toList_eq]; rfl
  cases h : s.toList with
  | nil =>
    rw [h] at this
    have : s.size = 0 := this.symm
    rw [this]
    rfl
  | cons x l =>
    rw [h] at this
    have h0 : ¬ s.size = 0 := by
      rw [← this]
      simp
    rw [decide_eq_false h0]
    rfl
theorem name_step (s : ByteArray) (pos : Nat) (h : pos < s.size) : ∃ (c : Int) (n : Nat), (∀ (w : World) ty, (Instr.next (.pointer (some ⟨w.heap.size, 0, none⟩)) true ty).run Tryd.prog (w.iter s pos) = .ok (.tuple #[.bool true, .int .i64 pos, .int .i32 c]) (w.iter s (pos + n))) ∧ nameAt s pos = okC c pos ∧ (okC c pos = true → n = 1) := by
  have hb : atB s pos = ((s[pos]'h).toNat : Int) := dif_pos h
  by_cases ha : (s[pos]'h).toNat < 128
  · refine ⟨((s[pos]'h).toNat : Int), 1, fun w ty => run_next_ascii w s pos ty h ha, ?_, fun _ => rfl⟩
    unfold nameAt
    rw [hb]
  · have hh := decode_high s pos h (by omega)
    refine ⟨((Utf8.decode s pos).1 : Int), (Utf8.decode s pos).2, fun w ty => run_next_any w s pos ty h, ?_, fun hk => ?_⟩
    · have e1 : okC ((s[pos]'h).toNat : Int) pos = false := by
        unfold okC letC digC
        simp
        omega
      have e2 : okC ((Utf8.decode s pos).1 : Int) pos = false := by
        unfold okC letC digC
        simp
        omega
      unfold nameAt
      rw [hb, e1, e2]
    · exfalso
      unfold okC letC digC at hk
      simp at hk
      omega
theorem name_step8 (s : ByteArray) (pos : Nat) (h : pos < s.size) : ∃ c : Int, ((s[pos]'h).toNat : Int) = c ∧ nameAt s pos = okC c pos := by
  have hb : atB s pos = ((s[pos]'h).toNat : Int) := dif_pos h
  refine ⟨_, rfl, ?_⟩
  unfold nameAt
  rw [hb]
set_option maxRecDepth 1000000 in
set_option maxHeartbeats 4000000 in
theorem isName_calls (s : ByteArray) (w : World) : Calls Tryd.prog 69 #[.string s] w fun e w' => e = .returned (.bool (nameB s)) ∧ Below w.heap.size w w' := by
  go_enter Tryd.func69, Tryd.ntmps69
  go_wp2_with fail
  go_loopw [] (fun wr => ∃ pos : Nat, pos ≤ s.size ∧ wr = w.iter s pos ∧ Aside0 (∀ j, j < pos → nameAt s j = true)) (fun wr => s.size - wr.iterPos w.heap.size)
  case atStart => exact ⟨0, by omega, rfl, ⟨fun j hj => by omega⟩⟩
  case round =>
    obtain ⟨pos, hpos, rfl, HR⟩ := hrel
    by_cases hlt : pos < s.size
    · obtain ⟨c, n, hnx0, hst, hn1⟩ := name_step s pos hlt
      have hnx := hnx0 w
      clear hnx0
      by_cases i1 : c = 95
      · skip
        have t_e : (c == 95) = true := by rw [beq_iff_eq]; omega
        have hk : okC c pos = true := by unfold okC letC digC; simp; omega
        obtain rfl : n = 1 := hn1 hk
        have HT := Aside0.mk (hst.trans hk)
        clear hk hst hn1
        go_wp2_with fail
        go_roundw
        case rel => exact ⟨pos + 1, by omega, rfl, ⟨fun j hj => by
          rcases Nat.lt_succ_iff_lt_or_eq.mp hj with h1 | rfl
          · exact HR.out j h1
          · exact HT.out⟩⟩
        case measure => simp; omega
      · by_cases i2 : 97 ≤ c
        · by_cases i3 : c ≤ 122
          · skip
            have t_e : (c == 95) = false := by rw [beq_eq_false_iff_ne]; omega
            have t_g97 : decide (97 ≤ c) = true := decide_eq_true (by omega)
            have t_l122 : decide (c ≤ 122) = true := decide_eq_true (by omega)
            have hk : okC c pos = true := by unfold okC letC digC; simp; omega
            obtain rfl : n = 1 := hn1 hk
            have HT := Aside0.mk (hst.trans hk)
            clear hk hst hn1
            go_wp2_with fail
            go_roundw
            case rel => exact ⟨pos + 1, by omega, rfl, ⟨fun j hj => by
              rcases Nat.lt_succ_iff_lt_or_eq.mp hj with h1 | rfl
              · exact HR.out j h1
              · exact HT.out⟩⟩
            case measure => simp; omega
          · skip
            by_cases h0 : pos = 0
            · have z0 : ((pos : Int) == 0) = true := by rw [beq_iff_eq]; omega
              have z1 : (pos == 0) = true := by rw [beq_iff_eq]; exact h0
              have t_e : (c == 95) = false := by rw [beq_eq_false_iff_ne]; omega
              have t_g97 : decide (97 ≤ c) = true := decide_eq_true (by omega)
              have t_l122 : decide (c ≤ 122) = false := decide_eq_false (by omega)
              have t_g65 : decide (65 ≤ c) = true := decide_eq_true (by omega)
              have t_l90 : decide (c ≤ 90) = false := decide_eq_false (by omega)
              have hk : okC c pos = false := by unfold okC letC digC; simp; omega
              have HT := Aside0.mk (name_no pos hlt (hst.trans hk))
              clear hk hst hn1 h0
              go_wp2_with fail
              go_ret
              exact ⟨by rw [HT.out] <;> rfl, below_iter _ _ _⟩
            · have z0 : ((pos : Int) == 0) = false := by rw [beq_eq_false_iff_ne]; omega
              have z1 : (pos == 0) = false := by rw [beq_eq_false_iff_ne]; exact h0
              have t_e : (c == 95) = false := by rw [beq_eq_false_iff_ne]; omega
              have t_g97 : decide (97 ≤ c) = true := decide_eq_true (by omega)
              have t_l122 : decide (c ≤ 122) = false := decide_eq_false (by omega)
              have t_g65 : decide (65 ≤ c) = true := decide_eq_true (by omega)
              have t_l90 : decide (c ≤ 90) = false := decide_eq_false (by omega)
              have t_b48 : decide (c < 48) = false := decide_eq_false (by omega)
              have t_a57 : decide (57 < c) = true := decide_eq_true (by omega)
              have hk : okC c pos = false := by unfold okC letC digC; simp; omega
              have HT := Aside0.mk (name_no pos hlt (hst.trans hk))
              clear hk hst hn1
              go_wp2_with fail
              go_ret
              exact ⟨by rw [HT.out] <;> rfl, below_iter _ _ _⟩
        · by_cases i3 : 65 ≤ c
          · by_cases i4 : c ≤ 90
            · skip
              have t_e : (c == 95) = false := by rw [beq_eq_false_iff_ne]; omega
              have t_g97 : decide (97 ≤ c) = false := decide_eq_false (by omega)
              have t_g65 : decide (65 ≤ c) = true := decide_eq_true (by omega)
              have t_l90 : decide (c ≤ 90) = true := decide_eq_true (by omega)
              have hk : okC c pos = true := by unfold okC letC digC; simp; omega
              obtain rfl : n = 1 := hn1 hk
              have HT := Aside0.mk (hst.trans hk)
              clear hk hst hn1
              go_wp2_with fail
              go_roundw
              case rel => exact ⟨pos + 1, by omega, rfl, ⟨fun j hj => by
                rcases Nat.lt_succ_iff_lt_or_eq.mp hj with h1 | rfl
                · exact HR.out j h1
                · exact HT.out⟩⟩
              case measure => simp; omega
            · skip
              by_cases h0 : pos = 0
              · have z0 : ((pos : Int) == 0) = true := by rw [beq_iff_eq]; omega
                have z1 : (pos == 0) = true := by rw [beq_iff_eq]; exact h0
                have t_e : (c == 95) = false := by rw [beq_eq_false_iff_ne]; omega
                have t_g97 : decide (97 ≤ c) = false := decide_eq_false (by omega)
                have t_g65 : decide (65 ≤ c) = true := decide_eq_true (by omega)
                have t_l90 : decide (c ≤ 90) = false := decide_eq_false (by omega)
                have hk : okC c pos = false := by unfold okC letC digC; simp; omega
                have HT := Aside0.mk (name_no pos hlt (hst.trans hk))
                clear hk hst hn1 h0
                go_wp2_with fail
                go_ret
                exact ⟨by rw [HT.out] <;> rfl, below_iter _ _ _⟩
              · have z0 : ((pos : Int) == 0) = false := by rw [beq_eq_false_iff_ne]; omega
                have z1 : (pos == 0) = false := by rw [beq_eq_false_iff_ne]; exact h0
                have t_e : (c == 95) = false := by rw [beq_eq_false_iff_ne]; omega
                have t_g97 : decide (97 ≤ c) = false := decide_eq_false (by omega)
                have t_g65 : decide (65 ≤ c) = true := decide_eq_true (by omega)
                have t_l90 : decide (c ≤ 90) = false := decide_eq_false (by omega)
                have t_b48 : decide (c < 48) = false := decide_eq_false (by omega)
                have t_a57 : decide (57 < c) = true := decide_eq_true (by omega)
                have hk : okC c pos = false := by unfold okC letC digC; simp; omega
                have HT := Aside0.mk (name_no pos hlt (hst.trans hk))
                clear hk hst hn1
                go_wp2_with fail
                go_ret
                exact ⟨by rw [HT.out] <;> rfl, below_iter _ _ _⟩
          · skip
            by_cases h0 : pos = 0
            · have z0 : ((pos : Int) == 0) = true := by rw [beq_iff_eq]; omega
              have z1 : (pos == 0) = true := by rw [beq_iff_eq]; exact h0
              have t_e : (c == 95) = false := by rw [beq_eq_false_iff_ne]; omega
              have t_g97 : decide (97 ≤ c) = false := decide_eq_false (by omega)
              have t_g65 : decide (65 ≤ c) = false := decide_eq_false (by omega)
              have hk : okC c pos = false := by unfold okC letC digC; simp; omega
              have HT := Aside0.mk (name_no pos hlt (hst.trans hk))
              clear hk hst hn1 h0
              go_wp2_with fail
              go_ret
              exact ⟨by rw [HT.out] <;> rfl, below_iter _ _ _⟩
            · have z0 : ((pos : Int) == 0) = false := by rw [beq_eq_false_iff_ne]; omega
              have z1 : (pos == 0) = false := by rw [beq_eq_false_iff_ne]; exact h0
              by_cases h1 : c < 48
              · skip
                have t_e : (c == 95) = false := by rw [beq_eq_false_iff_ne]; omega
                have t_g97 : decide (97 ≤ c) = false := decide_eq_false (by omega)
                have t_g65 : decide (65 ≤ c) = false := decide_eq_false (by omega)
                have t_b48 : decide (c < 48) = true := decide_eq_true (by omega)
                have hk : okC c pos = false := by unfold okC letC digC; simp; omega
                have HT := Aside0.mk (name_no pos hlt (hst.trans hk))
                clear hk hst hn1
                go_wp2_with fail
                go_ret
                exact ⟨by rw [HT.out] <;> rfl, below_iter _ _ _⟩
              · by_cases h2 : 57 < c
                · skip
                  have t_e : (c == 95) = false := by rw [beq_eq_false_iff_ne]; omega
                  have t_g97 : decide (97 ≤ c) = false := decide_eq_false (by omega)
                  have t_g65 : decide (65 ≤ c) = false := decide_eq_false (by omega)
                  have t_b48 : decide (c < 48) = false := decide_eq_false (by omega)
                  have t_a57 : decide (57 < c) = true := decide_eq_true (by omega)
                  have hk : okC c pos = false := by unfold okC letC digC; simp; omega
                  have HT := Aside0.mk (name_no pos hlt (hst.trans hk))
                  clear hk hst hn1
                  go_wp2_with fail
                  go_ret
                  exact ⟨by rw [HT.out] <;> rfl, below_iter _ _ _⟩
                · skip
                  have t_e : (c == 95) = false := by rw [beq_eq_false_iff_ne]; omega
                  have t_g97 : decide (97 ≤ c) = false := decide_eq_false (by omega)
                  have t_g65 : decide (65 ≤ c) = false := decide_eq_false (by omega)
                  have t_b48 : decide (c < 48) = false := decide_eq_false (by omega)
                  have t_a57 : decide (57 < c) = false := decide_eq_false (by omega)
                  have hk : okC c pos = true := by unfold okC letC digC; simp; omega
                  obtain rfl : n = 1 := hn1 hk
                  have HT := Aside0.mk (hst.trans hk)
                  clear hk hst hn1
                  go_wp2_with fail
                  go_roundw
                  case rel => exact ⟨pos + 1, by omega, rfl, ⟨fun j hj => by
                    rcases Nat.lt_succ_iff_lt_or_eq.mp hj with h1 | rfl
                    · exact HR.out j h1
                    · exact HT.out⟩⟩
                  case measure => simp; omega
    · have hnx : ∀ ty, (Instr.next (.pointer (some ⟨w.heap.size, 0, none⟩)) true ty).run Tryd.prog (w.iter s pos) = _ := fun ty => run_next_end w s pos ty hlt
      have HT := Aside0.mk (name_yes (s := s) (fun j hj => HR.out j (by omega)))
      by_cases h0 : s.size = 0
      · have hs : s.toList.isEmpty = true := by rw [toList_empty]; exact decide_eq_true h0
        have HK := Aside0.mk (show nameB s = false from by rw [HT.out, h0]; rfl)
        clear HT
        go_wp2_with fail
        go_ret
        exact ⟨by rw [HK.out] <;> rfl, below_iter _ _ _⟩
      · have hs : s.toList.isEmpty = false := by rw [toList_empty]; exact decide_eq_false h0
        have h1 : decide (1 ≤ s.size) = true := decide_eq_true (by omega)
        have h2 : decide ((s.size : Int) ≤ 63) = decide (s.size ≤ 63) := by
          by_cases h3 : s.size ≤ 63
          · rw [decide_eq_true h3]; exact decide_eq_true (by omega)
          · rw [decide_eq_false h3]; exact decide_eq_false (by omega)
        have HK := Aside0.mk (show nameB s = decide ((s.size : Int) ≤ 63) from by rw [HT.out, h1, h2]; rfl)
        clear HT h1 h2
        go_wp2_with fail
        go_ret
        exact ⟨by rw [HK.out] <;> rfl, below_iter _ _ _⟩
set_option maxRecDepth 1000000 in
set_option maxHeartbeats 4000000 in
theorem nameR_calls (s : ByteArray) (w : World) (hz : s.size ≤ 9223372036854775807) : Calls Tryd.prog 70 #[.string s] w fun e w' => e = .returned (.bool (nameB s)) ∧ w' = w := by
  go_enter Tryd.func70, Tryd.ntmps70
  go_wp2_with fail
  go_loop [3] (fun i => ∃ pos : Nat, pos ≤ s.size ∧ i = .int .i64 pos ∧ Aside0 (∀ j, j < pos → nameAt s j = true)) (fun i => s.size - (intOf i).toNat)
  case atStart => exact ⟨0, by omega, rfl, ⟨fun j hj => by omega⟩⟩
  case round =>
    obtain ⟨pos, hpos, rfl, HR⟩ := hrel
    by_cases hlt : pos < s.size
    · have hd : decide ((pos : Int) < (s.size : Int)) = true := decide_eq_true (by omega)
      obtain ⟨c, hc, hst⟩ := name_step8 s pos hlt
      by_cases i2 : 97 ≤ c
      · by_cases i3 : c ≤ 122
        · skip
          have t_g97 : decide (97 ≤ c) = true := decide_eq_true (by omega)
          have t_l122 : decide (c ≤ 122) = true := decide_eq_true (by omega)
          have hk : okC c pos = true := by unfold okC letC digC; simp; omega
          have HT := Aside0.mk (hst.trans hk)
          clear hk hst 
          go_wp2_with fail
          go_round
          case rel => exact ⟨pos + 1, by omega, by go_num, ⟨fun j hj => by
            rcases Nat.lt_succ_iff_lt_or_eq.mp hj with h1 | rfl
            · exact HR.out j h1
            · exact HT.out⟩⟩
          case measure => simp [intOf]; omega
        · skip
          by_cases h0 : pos = 0
          · have z0 : ((pos : Int) == 0) = true := by rw [beq_iff_eq]; omega
            have z1 : (pos == 0) = true := by rw [beq_iff_eq]; exact h0
            have t_e : (c == 95) = false := by rw [beq_eq_false_iff_ne]; omega
            have t_g97 : decide (97 ≤ c) = true := decide_eq_true (by omega)
            have t_l122 : decide (c ≤ 122) = false := decide_eq_false (by omega)
            have t_g65 : decide (65 ≤ c) = true := decide_eq_true (by omega)
            have t_l90 : decide (c ≤ 90) = false := decide_eq_false (by omega)
            have hk : okC c pos = false := by unfold okC letC digC; simp; omega
            have HT := Aside0.mk (name_no pos hlt (hst.trans hk))
            clear hk hst  h0
            go_wp2_with fail
            go_ret
            exact ⟨by rw [HT.out] <;> rfl, rfl⟩
          · have z0 : ((pos : Int) == 0) = false := by rw [beq_eq_false_iff_ne]; omega
            have z1 : (pos == 0) = false := by rw [beq_eq_false_iff_ne]; exact h0
            have t_e : (c == 95) = false := by rw [beq_eq_false_iff_ne]; omega
            have t_g97 : decide (97 ≤ c) = true := decide_eq_true (by omega)
            have t_l122 : decide (c ≤ 122) = false := decide_eq_false (by omega)
            have t_g65 : decide (65 ≤ c) = true := decide_eq_true (by omega)
            have t_l90 : decide (c ≤ 90) = false := decide_eq_false (by omega)
            have t_b48 : decide (c < 48) = false := decide_eq_false (by omega)
            have t_a57 : decide (57 < c) = true := decide_eq_true (by omega)
            have hk : okC c pos = false := by unfold okC letC digC; simp; omega
            have HT := Aside0.mk (name_no pos hlt (hst.trans hk))
            clear hk hst 
            go_wp2_with fail
            go_ret
            exact ⟨by rw [HT.out] <;> rfl, rfl⟩
      · by_cases i3 : 65 ≤ c
        · by_cases i4 : c ≤ 90
          · skip
            have t_g97 : decide (97 ≤ c) = false := decide_eq_false (by omega)
            have t_g65 : decide (65 ≤ c) = true := decide_eq_true (by omega)
            have t_l90 : decide (c ≤ 90) = true := decide_eq_true (by omega)
            have hk : okC c pos = true := by unfold okC letC digC; simp; omega
            have HT := Aside0.mk (hst.trans hk)
            clear hk hst 
            go_wp2_with fail
            go_round
            case rel => exact ⟨pos + 1, by omega, by go_num, ⟨fun j hj => by
              rcases Nat.lt_succ_iff_lt_or_eq.mp hj with h1 | rfl
              · exact HR.out j h1
              · exact HT.out⟩⟩
            case measure => simp [intOf]; omega
          · by_cases i1 : c = 95
            · skip
              have t_e : (c == 95) = true := by rw [beq_iff_eq]; omega
              have t_g97 : decide (97 ≤ c) = false := decide_eq_false (by omega)
              have t_g65 : decide (65 ≤ c) = true := decide_eq_true (by omega)
              have t_l90 : decide (c ≤ 90) = false := decide_eq_false (by omega)
              have hk : okC c pos = true := by unfold okC letC digC; simp; omega
              have HT := Aside0.mk (hst.trans hk)
              clear hk hst 
              go_wp2_with fail
              go_round
              case rel => exact ⟨pos + 1, by omega, by go_num, ⟨fun j hj => by
                rcases Nat.lt_succ_iff_lt_or_eq.mp hj with h1 | rfl
                · exact HR.out j h1
                · exact HT.out⟩⟩
              case measure => simp [intOf]; omega
            · skip
              by_cases h0 : pos = 0
              · have z0 : ((pos : Int) == 0) = true := by rw [beq_iff_eq]; omega
                have z1 : (pos == 0) = true := by rw [beq_iff_eq]; exact h0
                have t_e : (c == 95) = false := by rw [beq_eq_false_iff_ne]; omega
                have t_g97 : decide (97 ≤ c) = false := decide_eq_false (by omega)
                have t_g65 : decide (65 ≤ c) = true := decide_eq_true (by omega)
                have t_l90 : decide (c ≤ 90) = false := decide_eq_false (by omega)
                have hk : okC c pos = false := by unfold okC letC digC; simp; omega
                have HT := Aside0.mk (name_no pos hlt (hst.trans hk))
                clear hk hst  h0
                go_wp2_with fail
                go_ret
                exact ⟨by rw [HT.out] <;> rfl, rfl⟩
              · have z0 : ((pos : Int) == 0) = false := by rw [beq_eq_false_iff_ne]; omega
                have z1 : (pos == 0) = false := by rw [beq_eq_false_iff_ne]; exact h0
                have t_e : (c == 95) = false := by rw [beq_eq_false_iff_ne]; omega
                have t_g97 : decide (97 ≤ c) = false := decide_eq_false (by omega)
                have t_g65 : decide (65 ≤ c) = true := decide_eq_true (by omega)
                have t_l90 : decide (c ≤ 90) = false := decide_eq_false (by omega)
                have t_b48 : decide (c < 48) = false := decide_eq_false (by omega)
                have t_a57 : decide (57 < c) = true := decide_eq_true (by omega)
                have hk : okC c pos = false := by unfold okC letC digC; simp; omega
                have HT := Aside0.mk (name_no pos hlt (hst.trans hk))
                clear hk hst 
                go_wp2_with fail
                go_ret
                exact ⟨by rw [HT.out] <;> rfl, rfl⟩
        · skip
          by_cases h0 : pos = 0
          · have z0 : ((pos : Int) == 0) = true := by rw [beq_iff_eq]; omega
            have z1 : (pos == 0) = true := by rw [beq_iff_eq]; exact h0
            have t_e : (c == 95) = false := by rw [beq_eq_false_iff_ne]; omega
            have t_g97 : decide (97 ≤ c) = false := decide_eq_false (by omega)
            have t_g65 : decide (65 ≤ c) = false := decide_eq_false (by omega)
            have hk : okC c pos = false := by unfold okC letC digC; simp; omega
            have HT := Aside0.mk (name_no pos hlt (hst.trans hk))
            clear hk hst  h0
            go_wp2_with fail
            go_ret
            exact ⟨by rw [HT.out] <;> rfl, rfl⟩
          · have z0 : ((pos : Int) == 0) = false := by rw [beq_eq_false_iff_ne]; omega
            have z1 : (pos == 0) = false := by rw [beq_eq_false_iff_ne]; exact h0
            by_cases h1 : c < 48
            · skip
              have t_e : (c == 95) = false := by rw [beq_eq_false_iff_ne]; omega
              have t_g97 : decide (97 ≤ c) = false := decide_eq_false (by omega)
              have t_g65 : decide (65 ≤ c) = false := decide_eq_false (by omega)
              have t_b48 : decide (c < 48) = true := decide_eq_true (by omega)
              have hk : okC c pos = false := by unfold okC letC digC; simp; omega
              have HT := Aside0.mk (name_no pos hlt (hst.trans hk))
              clear hk hst 
              go_wp2_with fail
              go_ret
              exact ⟨by rw [HT.out] <;> rfl, rfl⟩
            · by_cases h2 : 57 < c
              · skip
                have t_e : (c == 95) = false := by rw [beq_eq_false_iff_ne]; omega
                have t_g97 : decide (97 ≤ c) = false := decide_eq_false (by omega)
                have t_g65 : decide (65 ≤ c) = false := decide_eq_false (by omega)
                have t_b48 : decide (c < 48) = false := decide_eq_false (by omega)
                have t_a57 : decide (57 < c) = true := decide_eq_true (by omega)
                have hk : okC c pos = false := by unfold okC letC digC; simp; omega
                have HT := Aside0.mk (name_no pos hlt (hst.trans hk))
                clear hk hst 
                go_wp2_with fail
                go_ret
                exact ⟨by rw [HT.out] <;> rfl, rfl⟩
              · skip
                have t_e : (c == 95) = false := by rw [beq_eq_false_iff_ne]; omega
                have t_g97 : decide (97 ≤ c) = false := decide_eq_false (by omega)
                have t_g65 : decide (65 ≤ c) = false := decide_eq_false (by omega)
                have t_b48 : decide (c < 48) = false := decide_eq_false (by omega)
                have t_a57 : decide (57 < c) = false := decide_eq_false (by omega)
                have hk : okC c pos = true := by unfold okC letC digC; simp; omega
                have HT := Aside0.mk (hst.trans hk)
                clear hk hst 
                go_wp2_with fail
                go_round
                case rel => exact ⟨pos + 1, by omega, by go_num, ⟨fun j hj => by
                  rcases Nat.lt_succ_iff_lt_or_eq.mp hj with h1 | rfl
                  · exact HR.out j h1
                  · exact HT.out⟩⟩
                case measure => simp [intOf]; omega
    · have hd : decide ((pos : Int) < (s.size : Int)) = false := decide_eq_false (by omega)
      have HT := Aside0.mk (name_yes (s := s) (fun j hj => HR.out j (by omega)))
      by_cases h0 : 1 ≤ s.size
      · have h1 : decide (1 ≤ s.size) = true := decide_eq_true h0
        have h1' : decide ((1 : Int) ≤ (s.size : Int)) = true := decide_eq_true (by omega)
        have h2 : decide ((s.size : Int) ≤ 63) = decide (s.size ≤ 63) := by
          by_cases h3 : s.size ≤ 63
          · rw [decide_eq_true h3]; exact decide_eq_true (by omega)
          · rw [decide_eq_false h3]; exact decide_eq_false (by omega)
        have HK := Aside0.mk (show nameB s = decide ((s.size : Int) ≤ 63) from by rw [HT.out, h1, h2]; rfl)
        clear HT h2
        go_wp2_with fail
        go_ret
        exact ⟨by rw [HK.out] <;> rfl, rfl⟩
      · have h1 : decide (1 ≤ s.size) = false := decide_eq_false h0
        have h1' : decide ((1 : Int) ≤ (s.size : Int)) = false := decide_eq_false (by omega)
        have HK := Aside0.mk (show nameB s = false from by rw [HT.out, h1]; rfl)
        clear HT
        go_wp2_with fail
        go_ret
        exact ⟨by rw [HK.out] <;> rfl, rfl⟩
end Go.Proofs.YthckjbmgeidkgaaDoor.XA
