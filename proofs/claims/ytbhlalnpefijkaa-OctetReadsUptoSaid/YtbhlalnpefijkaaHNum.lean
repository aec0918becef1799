/- octet.Digits and octet.Decimal: the contracts of the two Go functions. -/
import Derived.Test.YtbhlalnpefijkaaHPlain
import Derived.IntWalk
namespace Go.Proofs.Ytbhlalnpefijkaa
open Go.RowKit

/-- one digit more -/
def digNext (v : Int) (c : UInt8) : Option Int :=
  if c.toNat < 48 ∨ 57 < c.toNat then none else if (18446744073709551615 - ((c.toNat : Int) - 48)) / 10 < v then none else some (v * 10 + ((c.toNat : Int) - 48))
/-- the number that a row of digits says, behind a number; none: it is none, or too great -/
def digFold : List UInt8 → Int → Option Int
  | [], v => some v
  | c :: l, v => match digNext v c with | none => none | some x => digFold l x
/-- what octet.Digits answers -/
def digitsP (s : ByteArray) (most : Int) : Int × Int :=
  if s.size = 0 ∨ 20 < s.size ∨ (s.toList.headD 0 = 48 ∧ 1 < s.size) then (0, 13) else
  match digFold s.toList 0 with
  | none => (0, 13)
  | some v => if most < v then (0, 13) else (v, 0)

set_option maxRecDepth 1000000 in
set_option maxHeartbeats 1000000 in
theorem digits_short (s : ByteArray) (m : Int) (w : World) (h : s.size = 0) :
    Calls Try.prog 39 #[.string s, .int .u64 m] w fun e w' => e = .returned (.tuple #[.int .u64 0, .int .i64 13]) ∧ Below w.heap.size w w' := by
  have h1 : ((s.size : Int) == 0) = true := by simp [h]
  clear h
  go_enter Try.func39, Try.ntmps39
  go_wp2
  go_ret2
  exact ⟨rfl, Below.refl _ _⟩
set_option maxRecDepth 1000000 in
set_option maxHeartbeats 1000000 in
theorem digits_long (s : ByteArray) (m : Int) (w : World) (h : 20 < s.size) :
    Calls Try.prog 39 #[.string s, .int .u64 m] w fun e w' => e = .returned (.tuple #[.int .u64 0, .int .i64 13]) ∧ Below w.heap.size w w' := by
  have h1 : ((s.size : Int) == 0) = false := beq_eq_false_iff_ne.2 (by omega)
  have h2 : decide ((20 : Int) < s.size) = true := decide_eq_true (by omega)
  clear h
  go_enter Try.func39, Try.ntmps39
  go_wp2
  go_ret2
  exact ⟨rfl, Below.refl _ _⟩
set_option maxRecDepth 1000000 in
set_option maxHeartbeats 1000000 in
theorem digits_zero (s : ByteArray) (m : Int) (w : World) (h : 1 < s.size) (h3 : s.size ≤ 20) (h0 : s[0].toNat = 48) :
    Calls Try.prog 39 #[.string s, .int .u64 m] w fun e w' => e = .returned (.tuple #[.int .u64 0, .int .i64 13]) ∧ Below w.heap.size w w' := by
  have h1 : ((s.size : Int) == 0) = false := beq_eq_false_iff_ne.2 (by omega)
  have h2 : decide ((20 : Int) < s.size) = false := decide_eq_false (by omega)
  have h4 : decide ((1 : Int) < s.size) = true := decide_eq_true (by omega)
  have h5 : ((s[0].toNat : Int) == 48) = true := by simp; omega
  have h6 : 0 < s.size := by omega
  clear h0
  go_enter Try.func39, Try.ntmps39
  go_wp2
  go_ret2
  exact ⟨rfl, Below.refl _ _⟩

theorem digit_yes (c : UInt8) (v x : Int) (v0 : 0 ≤ v) (v1 : v ≤ 18446744073709551615) (h : digNext v c = some x) : 0 ≤ x ∧ x ≤ 18446744073709551615 := by
  unfold digNext at h
  split at h
  · cases h
  · split at h
    · cases h
    · cases h
      omega
/-- what the loop comes to -/
def digQ (s : ByteArray) (m : Int) : Int × Int := match digFold s.toList 0 with | none => (0, 13) | some v => if m < v then (0, 13) else (v, 0)
theorem drop_at (s : ByteArray) (pos : Nat) (h : pos < s.size) : s.toList.drop pos = s[pos] :: s.toList.drop (pos + 1) := by
  rw [toList_eq, List.drop_eq_getElem_cons (by simpa using h)]
  rfl
theorem fold_none (s : ByteArray) (m : Int) (pos : Nat) (v : Int) (h : pos < s.size) (hv : digFold (s.toList.drop pos) v = digFold s.toList 0) (hn : digNext v s[pos] = none) : digQ s m = (0, 13) := by
  rw [drop_at s pos h] at hv
  unfold digQ
  rw [← hv]
  simp [digFold, hn]
theorem fold_step (s : ByteArray) (pos : Nat) (v x : Int) (h : pos < s.size) (hv : digFold (s.toList.drop pos) v = digFold s.toList 0) (hn : digNext v s[pos] = some x) : digFold (s.toList.drop (pos + 1)) x = digFold s.toList 0 := by
  rw [drop_at s pos h] at hv
  rw [← hv]
  simp [digFold, hn]
theorem fold_end (s : ByteArray) (m : Int) (pos : Nat) (v : Int) (h : ¬ pos < s.size) (hv : digFold (s.toList.drop pos) v = digFold s.toList 0) : digQ s m = if m < v then (0, 13) else (v, 0) := by
  rw [List.drop_of_length_le (by rw [toList_eq]; simp; omega)] at hv
  unfold digQ
  rw [← hv]
  simp [digFold]
theorem ret_two {a b c d : Int} {p : Int × Int} (h : p = (a, b)) (hc : a = c) (hd : b = d) : Ending.returned (.tuple #[.int .u64 c, .int .i64 d]) = Ending.returned (.tuple #[.int .u64 p.1, .int .i64 p.2]) := by
  subst h hc hd; rfl
set_option maxRecDepth 1000000 in
set_option maxHeartbeats 1000000 in
theorem digits_loop (s : ByteArray) (m : Int) (w : World) (h : 1 ≤ s.size) (h3 : s.size ≤ 20) (h0 : s.size ≤ 1 ∨ ¬ s[0].toNat = 48) :
    Calls Try.prog 39 #[.string s, .int .u64 m] w fun e w' => e = .returned (.tuple #[.int .u64 (digQ s m).1, .int .i64 (digQ s m).2]) ∧ ∃ pos, w' = w.iter s pos := by
  have h1 : ((s.size : Int) == 0) = false := beq_eq_false_iff_ne.2 (by omega)
  have h2 : decide ((20 : Int) < s.size) = false := decide_eq_false (by omega)
  have h6 : 0 < s.size := by omega
  have h7 : ((s[0].toNat : Int) == 48) = false ∨ ((s[0].toNat : Int) == 48) = true ∧ decide ((1 : Int) < s.size) = false := by
    by_cases e : s[0].toNat = 48
    · exact .inr ⟨by simp; omega, decide_eq_false (by omega)⟩
    · exact .inl (beq_eq_false_iff_ne.2 (by omega))
  have H0 := Lib.hid h0
  clear h0
  rcases h7 with h7 | ⟨h7, h8⟩
  all_goals
    go_enter Try.func39, Try.ntmps39
    go_wp2
    go_loopw [6] (fun t w' => ∃ (pos : Nat) (v : Int), w' = w.iter s pos ∧ t = .int .u64 v ∧ 0 ≤ v ∧ v ≤ 18446744073709551615 ∧ Hid (digFold (s.toList.drop pos) v = digFold s.toList 0)) (fun _ w' => s.size - w'.iterPos w.heap.size)
    case atStart => exact ⟨0, 0, rfl, rfl, by omega, by omega, Lib.hid rfl⟩
    case round =>
      obtain ⟨pos, v, rfl, rfl, v0, v1, hv⟩ := hrel
      by_cases hlt : pos < s.size
      · by_cases hlow : s[pos].toNat < 128
        · have hnx : ∀ ty, (Instr.next (.pointer (some ⟨w.heap.size, 0, none⟩)) true ty).run Try.prog (w.iter s pos) = _ := fun ty => run_next_ascii w s pos ty hlt hlow
          have HF := Lib.hid (fun x => fold_step s pos v x hlt hv.out)
          have HN := Lib.hid (fold_none s m pos v hlt hv.out)
          have HD : Hid (digNext v s[pos] = digNext v s[pos]) := Lib.hid rfl
          unfold digNext at HD
          by_cases c1 : s[pos].toNat < 48
          · have d1 : decide ((s[pos].toNat : Int) < 48) = true := decide_eq_true (by omega)
            have HN' := Lib.hid (HN.out (by unfold digNext; rw [if_pos (.inl c1)]))
            go_wp2
            go_ret2
            exact ⟨ret_two HN'.out rfl rfl, _, rfl⟩
          · have d1 : decide ((s[pos].toNat : Int) < 48) = false := decide_eq_false (by omega)
            by_cases c2 : 57 < s[pos].toNat
            · have d2 : decide (57 < (s[pos].toNat : Int)) = true := decide_eq_true (by omega)
              have HN' := Lib.hid (HN.out (by unfold digNext; rw [if_pos (.inr c2)]))
              go_wp2
              go_ret2
              exact ⟨ret_two HN'.out rfl rfl, _, rfl⟩
            · have d2 : decide (57 < (s[pos].toNat : Int)) = false := decide_eq_false (by omega)
              by_cases c3 : (18446744073709551615 - ((s[pos].toNat : Int) - 48)) / 10 < v
              · have HN' := Lib.hid (HN.out (by unfold digNext; rw [if_neg (by omega), if_pos c3]))
                have d3 : decide ((18446744073709551615 - ((s[pos].toNat : Int) - 48)) / 10 < v) = true := decide_eq_true c3
                go_wp2
                go_ret2
                exact ⟨ret_two HN'.out rfl rfl, _, rfl⟩
              · have HF' := Lib.hid (HF.out (v * 10 + ((s[pos].toNat : Int) - 48)) (by unfold digNext; rw [if_neg (by omega), if_neg c3]))
                have d3 : decide ((18446744073709551615 - ((s[pos].toNat : Int) - 48)) / 10 < v) = false := decide_eq_false c3
                go_wp2
                go_roundw
                case rel => exact ⟨pos + 1, _, rfl, rfl, by omega, by omega, HF'⟩
                case measure =>
                  simp
                  omega
        · have hh := decode_high s pos hlt (by omega)
          have HN' := Lib.hid (fold_none s m pos v hlt hv.out (by unfold digNext; rw [if_pos (.inr (by omega))]))
          obtain ⟨x, n, hd, hx⟩ : ∃ x n : Nat, Utf8.decode s pos = (x, n) ∧ 128 ≤ x := ⟨(Utf8.decode s pos).1, (Utf8.decode s pos).2, rfl, hh.1⟩
          have hnx : ∀ ty, (Instr.next (.pointer (some ⟨w.heap.size, 0, none⟩)) true ty).run Try.prog (w.iter s pos) = .ok (.tuple #[.bool true, .int .i64 pos, .int .i32 (x : Nat)]) (w.iter s (pos + n)) := fun ty => by rw [run_next_any w s pos ty hlt, hd]
          clear hd hh
          have d1 : decide ((x : Int) < 48) = false := decide_eq_false (by omega)
          have d2 : decide (57 < (x : Int)) = true := decide_eq_true (by omega)
          go_wp2
          go_ret2
          exact ⟨ret_two HN'.out rfl rfl, _, rfl⟩
      · have hnx : ∀ ty, (Instr.next (.pointer (some ⟨w.heap.size, 0, none⟩)) true ty).run Try.prog (w.iter s pos) = _ := fun ty => run_next_end w s pos ty hlt
        have HE := Lib.hid (fold_end s m pos v hlt hv.out)
        by_cases hm : m < v
        · have hm' : decide (m < v) = true := decide_eq_true hm
          have HE' := Lib.hid (HE.out.trans (if_pos hm))
          go_wp2
          go_ret2
          exact ⟨ret_two HE'.out rfl rfl, _, rfl⟩
        · have hm' : decide (m < v) = false := decide_eq_false hm
          have HE' := Lib.hid (HE.out.trans (if_neg hm))
          go_wp2
          go_ret2
          exact ⟨ret_two HE'.out rfl rfl, _, rfl⟩

theorem headD_at (s : ByteArray) (h : 0 < s.size) : s.toList.headD 0 = s[0] := by
  have := drop_at s 0 h
  rw [List.drop_zero] at this
  rw [this]; rfl
theorem digits_calls (s : ByteArray) (m : Int) (w : World) :
    Calls Try.prog 39 #[.string s, .int .u64 m] w fun e w' => e = .returned (.tuple #[.int .u64 (digitsP s m).1, .int .i64 (digitsP s m).2]) ∧ Below w.heap.size w w' := by
  by_cases h0 : s.size = 0
  · have : digitsP s m = (0, 13) := by unfold digitsP; rw [if_pos (.inl h0)]
    rw [this]; exact digits_short s m w h0
  by_cases h1 : 20 < s.size
  · have : digitsP s m = (0, 13) := by unfold digitsP; rw [if_pos (.inr (.inl h1))]
    rw [this]; exact digits_long s m w h1
  have hz := headD_at s (by omega)
  by_cases h2 : 1 < s.size ∧ s[0].toNat = 48
  · have : digitsP s m = (0, 13) := by
      unfold digitsP
      rw [if_pos (.inr (.inr ⟨by rw [hz]; exact UInt8.toNat_inj.1 h2.2, h2.1⟩))]
    rw [this]; exact digits_zero s m w h2.1 (by omega) h2.2
  · have : digitsP s m = digQ s m := by
      unfold digitsP digQ
      rw [if_neg]
      rintro (h | h | ⟨h, h'⟩)
      · exact h0 h
      · exact h1 h
      · rw [hz] at h
        exact h2 ⟨h', by rw [h]; rfl⟩
    rw [this]
    exact (digits_loop s m w (by omega) (by omega) (by omega)).mono fun _ _ ⟨he, _, hw⟩ => ⟨he, hw ▸ below_iter _ _ _⟩

end Go.Proofs.Ytbhlalnpefijkaa
