/- octet.Plain: the contract of the Go function: every byte from 32 to 126, and at most 255 bytes. -/
import Derived.Test.YtbhlalnpefijkaaProg
import Derived.WalkKit
import Derived.Below
import Derived.WalkSmall
import Derived.Laws.RangeAny
import Derived.LoopTactic
import Derived.Lib.Hide
import Derived.Outline
namespace Go.Proofs.Ytbhlalnpefijkaa
open Go.RowKit

/-- is a byte from 32 to 126 -/
def plainC (c : UInt8) : Bool := decide (32 ≤ c.toNat ∧ c.toNat ≤ 126)
/-- is a string a text -/
def plainB (s : ByteArray) : Bool := s.toList.all plainC && decide (s.size ≤ 255)

theorem toList_eq (s : ByteArray) : s.toList = s.data.toList := ByteArray.toList_eq s
theorem all_toList (s : ByteArray) (p : UInt8 → Bool) : s.toList.all p = true ↔ ∀ i (hi : i < s.size), p s[i] = true := by
  rw [toList_eq, List.all_eq_true]
  constructor
  · intro h i hi
    exact h _ (List.mem_iff_getElem.2 ⟨i, by simpa using hi, rfl⟩)
  · intro h x hx
    obtain ⟨i, hi, rfl⟩ := List.mem_iff_getElem.1 hx
    exact h i (by simpa using hi)
theorem plainB_false (s : ByteArray) (pos : Nat) (h : pos < s.size) (hc : plainC s[pos] = false) : plainB s = false := by
  unfold plainB
  have : s.toList.all plainC = false := by
    rw [Bool.eq_false_iff]
    intro ha
    rw [(all_toList s plainC).1 ha pos h] at hc
    cases hc
  simp [this]
theorem plainB_end (s : ByteArray) (h : ∀ i (hi : i < s.size), plainC s[i] = true) : plainB s = decide ((s.size : Int) ≤ 255) := by
  unfold plainB
  rw [(all_toList s plainC).2 h]
  simp
  omega
theorem plainC_low (c : UInt8) (h : plainC c = true) : c.toNat < 128 ∧ decide ((c.toNat : Int) < 32) = false ∧ decide (126 < (c.toNat : Int)) = false := by
  unfold plainC at h
  have h := of_decide_eq_true h
  exact ⟨by omega, decide_eq_false (by omega), decide_eq_false (by omega)⟩

theorem plainC_high (s : ByteArray) (pos : Nat) (h : pos < s.size) (hc : plainC s[pos] = false) : ∃ v n : Nat, (v < 32 ∨ ¬ v < 32 ∧ 126 < v) ∧ Utf8.decode s pos = (v, n) := by
  by_cases ha : (s[pos]'h).toNat < 128
  · refine ⟨_, _, ?_, decode_ascii s pos h ha⟩
    unfold plainC at hc
    have := of_decide_eq_false hc
    omega
  · have hh := decode_high s pos h (by omega)
    exact ⟨(Utf8.decode s pos).1, (Utf8.decode s pos).2, .inr ⟨by omega, by omega⟩, rfl⟩
set_option maxRecDepth 1000000 in
set_option maxHeartbeats 1000000 in
theorem plain_walk (s : ByteArray) (w : World) :
    Calls Try.prog 18 #[.string s] w fun e w' => e = .returned (.bool (plainB s)) ∧ ∃ pos, w' = w.iter s pos := by
  go_enter Try.func18, Try.ntmps18
  go_wp2
  go_loopw [] (fun w' => ∃ (pos : Nat), w' = w.iter s pos ∧ Hid (∀ i (hi : i < s.size), i < pos → plainC s[i] = true)) (fun w' => s.size - w'.iterPos w.heap.size)
  case atStart => exact ⟨0, rfl, Lib.hid (fun i _ h => by omega)⟩
  case round =>
    obtain ⟨pos, rfl, hp⟩ := hrel
    by_cases hlt : pos < s.size
    · by_cases hpl : plainC s[pos] = true
      · obtain ⟨h1, h2, h3⟩ := plainC_low _ hpl
        have hnx : ∀ ty, (Instr.next (.pointer (some ⟨w.heap.size, 0, none⟩)) true ty).run Try.prog (w.iter s pos) = _ := fun ty => run_next_ascii w s pos ty hlt h1
        have HP := Lib.hid hpl
        clear hpl
        go_wp2
        go_roundw
        case rel =>
          refine ⟨pos + 1, rfl, Lib.hid (fun i hi h => ?_)⟩
          by_cases e : i = pos
          · subst e; exact HP.out
          · exact hp.out i hi (by omega)
        case measure =>
          simp
          omega
      · have hpf : plainC s[pos] = false := by simpa using hpl
        have hfin := Lib.hid (plainB_false s pos hlt hpf)
        obtain ⟨v, n, hv, hd⟩ := plainC_high s pos hlt hpf
        have hnx : ∀ ty, (Instr.next (.pointer (some ⟨w.heap.size, 0, none⟩)) true ty).run Try.prog (w.iter s pos) = .ok (.tuple #[.bool true, .int .i64 pos, .int .i32 (v : Nat)]) (w.iter s (pos + n)) := fun ty => by rw [run_next_any w s pos ty hlt, hd]
        clear hd hpl hpf
        rcases hv with hv | ⟨h1, h2⟩
        · have hv' : decide ((v : Int) < 32) = true := decide_eq_true (by omega)
          go_wp2
          go_ret
          exact ⟨by rw [hfin.out]; rfl, _, rfl⟩
        · have hv1 : decide ((v : Int) < 32) = false := decide_eq_false (by omega)
          have hv' : decide (126 < (v : Int)) = true := decide_eq_true (by omega)
          go_wp2
          go_ret
          exact ⟨by rw [hfin.out]; rfl, _, rfl⟩
    · have hnx : ∀ ty, (Instr.next (.pointer (some ⟨w.heap.size, 0, none⟩)) true ty).run Try.prog (w.iter s pos) = _ := fun ty => run_next_end w s pos ty hlt
      have hfin := Lib.hid (plainB_end s (fun i hi => hp.out i hi (by omega)))
      go_wp2
      go_ret
      exact ⟨by rw [hfin.out]; rfl, _, rfl⟩

theorem below_iter (w : World) (s : ByteArray) (pos : Nat) : Below w.heap.size w (w.iter s pos) := (Below.refl _ _).alloc (Nat.le_refl _) _
theorem plain_calls (s : ByteArray) (w : World) :
    Calls Try.prog 18 #[.string s] w fun e w' => e = .returned (.bool (plainB s)) ∧ Below w.heap.size w w' :=
  (plain_walk s w).mono fun _ _ ⟨he, _, hw⟩ => ⟨he, hw ▸ below_iter _ _ _⟩

end Go.Proofs.Ytbhlalnpefijkaa
