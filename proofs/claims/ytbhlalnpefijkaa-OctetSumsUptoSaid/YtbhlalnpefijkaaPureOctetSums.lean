/- OctetSums: the document's sum is the program's, in plain Lean; then the row's walk with its sums in place. -/
import Derived.Test.YtbhlalnpefijkaaHCrc
import Derived.Test.YtbhlalnpefijkaaHSums
namespace Go.Proofs.Ytbhlalnpefijkaa.Pure
set_option linter.unusedVariables false
set_option linter.unusedSimpArgs false
open Go.RowKit Go.Proofs.Ytbhlalnpefijkaa.XC Go.Proofs.YtbhlalnpefijkaaW.PrintWords Go.Proofs.YtbhlalnpefijkaaW.PrintLast

theorem bits_and16 (a b : BitVec 16) : Go.bits .and .u16 (a.toNat : Int) (b.toNat : Int) = ((a &&& b).toNat : Int) := by
  unfold Go.bits
  simp only [IntKind.bits, BitVec.ofInt_natCast, BitVec.ofNat_toNat, BitVec.setWidth_eq, wrap_u16]
  have := (a &&& b).isLt
  exact Int.emod_eq_of_lt (Int.natCast_nonneg _) (by show ((a &&& b).toNat : Int) < 65536; omega)
theorem top_bit (r : BitVec 16) : (Go.bits .and .u16 (r.toNat : Int) 32768 = 0) ↔ r.msb = false := by
  have h := bits_and16 r (BitVec.twoPow 16 15)
  rw [show ((BitVec.twoPow 16 15).toNat : Int) = 32768 from by decide] at h
  rw [h, BitVec.and_twoPow, BitVec.msb_eq_getLsbD_last]
  cases hb : r.getLsbD (16 - 1)
  · simp
  · decide
theorem ref_l1 (l : List Int) (x4 : Int) : ∀ (d i k : Nat) (r : BitVec 16), i + d = 8 → tappetref01_Crc.l1 (k + d + 1) l (r.toNat : Int) x4 (i : Int) = tappetref01_Crc.l0 k l ((stN d r).toNat : Int) (wrap64 (x4 + 1))
  | 0, i, k, r, h => by
    rw [tappetref01_Crc.l1, if_neg (by omega)]
    rfl
  | d + 1, i, k, r, h => by
    rw [tappetref01_Crc.l1, if_pos (by omega), nextI i (by omega), shl_eq]
    have hs : (if Go.bits .and .u16 (r.toNat : Int) 32768 = 0 then tappetref01_Crc.l1 (k + (d + 1)) l ((r <<< 1).toNat : Int) x4 ((i + 1 : Nat) : Int) else tappetref01_Crc.l1 (k + (d + 1)) l (Go.bits .xor .u16 ((r <<< 1).toNat : Int) 4129) x4 ((i + 1 : Nat) : Int)) = tappetref01_Crc.l1 (k + (d + 1)) l ((st r).toNat : Int) x4 ((i + 1 : Nat) : Int) := by
      by_cases c : Go.bits .and .u16 (r.toNat : Int) 32768 = 0
      · rw [if_pos c]
        have := (top_bit r).1 c
        unfold st
        rw [this]
        simp
      · rw [if_neg c]
        have : r.msb = true := by
          cases hm : r.msb with
          | true => rfl
          | false => exact absurd ((top_bit r).2 hm) c
        have h2 := bits_xor16 (r <<< 1) 4129#16
        rw [show ((4129#16).toNat : Int) = 4129 from by decide] at h2
        rw [h2]
        unfold st
        rw [this]
        simp
    rw [hs]
    exact ref_l1 l x4 d (i + 1) k (st r) (by omega)
theorem ref_l0 (l : List Int) (hl : ∀ x ∈ l, 0 ≤ x ∧ x ≤ 255) (hb : l.length < 9223372036854775807) : ∀ (d i k : Nat) (r : BitVec 16), i + d = l.length → tappetref01_Crc.l0 (k + 10 * d + 1) l (r.toNat : Int) (i : Int) = some ((crcB r (l.drop i)).toNat : Int)
  | 0, i, k, r, h => by
    rw [tappetref01_Crc.l0, if_neg (by omega), List.drop_eq_nil_of_le (by omega)]
    rfl
  | d + 1, i, k, r, h => by
    have hi : i < l.length := by omega
    have hrd : rd l (i : Int) = l[i] := by
      unfold rd
      rw [Int.toNat_natCast, List.getD_eq_getElem?_getD, List.getElem?_eq_getElem hi]
      rfl
    rw [show k + 10 * (d + 1) + 1 = (k + 10 * d + 1) + 8 + 1 + 1 by omega, tappetref01_Crc.l0, if_pos (by omega), if_pos (by omega), hrd, word_eq _ (hl _ (List.getElem_mem hi)), bits_xor16]
    have := ref_l1 l (i : Int) 8 0 (k + 10 * d + 1) (r ^^^ wordOf l[i]) rfl
    rw [show ((0 : Nat) : Int) = 0 from rfl] at this
    rw [this, nextI i (by omega), ref_l0 l hl hb d (i + 1) k _ (by omega), List.drop_eq_getElem_cons hi, crcB_cons]
theorem ref_f (l : List Int) (hl : ∀ x ∈ l, 0 ≤ x ∧ x ≤ 255) (hb : l.length < 9223372036854775807) : tappetref01_Crc.f (10 * l.length + 1) l = some ((crcB 65535#16 l).toNat : Int) := by
  have := ref_l0 l hl hb l.length 0 0 65535#16 (by omega)
  rw [Nat.zero_add, List.drop_zero] at this
  exact this
theorem wtB_eq (l : List Int) : wtB l = l.length + 1 := by
  unfold wtB
  induction l with
  | nil => rfl
  | cons x l ih => simp only [List.map_cons, List.sum_cons, List.length_cons] at *; omega
theorem wtP_ge : ∀ ls : List (List Int), ls.flatten.length + ls.length ≤ (ls.map wtB).sum
  | [] => Nat.le_refl _
  | x :: ls => by
    have := wtP_ge ls
    have h := wtB_eq x
    simp only [List.flatten_cons, List.length_append, List.length_cons, List.map_cons, List.sum_cons]
    omega
theorem u8_of {y : Int} (h : (Lit.int .u8 y).wf = true) : 0 ≤ y ∧ y ≤ 255 := by
  simp [Lit.wf, IntKind.min, IntKind.max, IntKind.bits, IntKind.signed] at h
  omega
theorem flat_mem {ls : List (List Int)} (hok : okP ls) : ∀ x ∈ ls.flatten, 0 ≤ x ∧ x ≤ 255 := by
  intro x hx
  obtain ⟨l, hl, hx⟩ := List.mem_flatten.mp hx
  exact u8_of (hok l hl x hx)
theorem len_le {ls : List (List Int)} : ∀ l ∈ ls, l.length ≤ ls.flatten.length := by
  intro l hl
  obtain ⟨s, t, rfl⟩ := List.append_of_mem hl
  simp only [List.flatten_append, List.flatten_cons, List.length_append]
  omega
theorem sums_row (w : World) (A0 : Option Addr) (c0 : Nat) (ls : List (List Int)) (hC : (Kd.slice 5 (Kd.int .u8)).C w A0 ls.length ls) (hc : ls.length ≤ c0) (hok : okP ls) (hsz : szP ls) (z : wtP ls ≤ 1048576) :
    Calls Try.prog 4 #[.slice A0 ls.length c0] w fun e w' => e = .returned (.bool true) ∧ Below w.heap.size w w' := by
  have h1 := wtP_ge ls
  unfold wtP at z
  have hf : ls.flatten.length ≤ 1048576 := by omega
  have hn : ls.length ≤ 1048576 := by omega
  have hb := flat_mem hok
  have q1 := crc_f ls (by omega) (fun l hl => ⟨by have := len_le l hl; omega, fun x hx => u8_of (hok l hl x hx)⟩) 0
  have q2 := ref_f ls.flatten hb (by omega)
  have q3 := crc_f [ls.flatten] (by simp) (fun l hl => by rw [List.mem_singleton] at hl; subst hl; exact ⟨by omega, hb⟩) 0
  rw [show [ls.flatten].flatten = ls.flatten from by simp] at q3
  have q4 := crc_f [] (by simp) (fun l hl => by simp at hl) 0
  exact sums_walk w A0 c0 ls hC hc hf hn _ _ _ _ _ q1 q2 q3 q4
end Go.Proofs.Ytbhlalnpefijkaa.Pure
