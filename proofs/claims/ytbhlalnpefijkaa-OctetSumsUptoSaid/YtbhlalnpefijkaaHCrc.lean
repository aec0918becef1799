/- the check sum, in plain Lean: a state of 16 bits, a step; the sum is linear, and its step loses nothing. -/
import Derived.Test.YtbhlalnpefijkaaXCx2
namespace Go.Proofs.Ytbhlalnpefijkaa.Pure
set_option linter.unusedVariables false
set_option linter.unusedSimpArgs false
open Go.RowKit Go.Proofs.Ytbhlalnpefijkaa.XC Go.Proofs.YtbhlalnpefijkaaW.PrintWords Go.Proofs.YtbhlalnpefijkaaW.PrintLast

/-! ### steps -/
def st (r : BitVec 16) : BitVec 16 := (r <<< 1) ^^^ (if r.msb then 4129#16 else 0#16)
def stN : Nat → BitVec 16 → BitVec 16
  | 0, r => r
  | k + 1, r => stN k (st r)
theorem xor_pp (x y p : BitVec 16) : (x ^^^ p) ^^^ (y ^^^ p) = x ^^^ y := by
  rw [BitVec.xor_comm y p, BitVec.xor_assoc, ← BitVec.xor_assoc p p y, BitVec.xor_self, BitVec.zero_xor]
theorem st_xor (a b : BitVec 16) : st (a ^^^ b) = st a ^^^ st b := by
  unfold st
  rw [BitVec.shiftLeft_xor_distrib, BitVec.msb_xor]
  cases a.msb <;> cases b.msb
  · simp
  · simp [BitVec.xor_assoc]
  · simp only [Bool.xor_false, if_true, Bool.false_eq_true, if_false, BitVec.xor_zero]
    rw [BitVec.xor_assoc, BitVec.xor_comm (b <<< 1), ← BitVec.xor_assoc]
  · simp only [Bool.xor_self, Bool.false_eq_true, if_true, if_false, BitVec.xor_zero]
    rw [xor_pp]
theorem stN_xor : ∀ (k : Nat) (a b : BitVec 16), stN k (a ^^^ b) = stN k a ^^^ stN k b
  | 0, _, _ => rfl
  | k + 1, a, b => by rw [stN, st_xor, stN_xor k]; rfl
theorem stN_stN : ∀ (a b : Nat) (r : BitVec 16), stN a (stN b r) = stN (b + a) r
  | a, 0, r => by rw [Nat.zero_add]; rfl
  | a, b + 1, r => by rw [stN, stN_stN a b, Nat.add_right_comm]; rfl
theorem st_zero (r : BitVec 16) (h : st r = 0#16) : r = 0#16 := by
  unfold st at h
  cases hm : r.msb with
  | true =>
    rw [hm] at h
    have := congrArg (fun x : BitVec 16 => x.getLsbD 0) h
    simp at this
  | false =>
    rw [hm] at h
    simp only [Bool.false_eq_true, if_false, BitVec.xor_zero] at h
    apply BitVec.eq_of_getLsbD_eq
    intro i hi
    rcases Nat.lt_or_ge i 15 with h15 | h15
    · have := congrArg (fun x : BitVec 16 => x.getLsbD (i + 1)) h
      simp [hi] at this
      rw [BitVec.getLsbD_zero]
      exact this (by omega)
    · obtain rfl : i = 15 := by omega
      rw [BitVec.msb_eq_getLsbD_last] at hm
      simpa using hm
theorem stN_zero : ∀ (k : Nat) (r : BitVec 16), stN k r = 0#16 → r = 0#16
  | 0, _, h => h
  | k + 1, r, h => st_zero r (stN_zero k _ h)
theorem stN_0 : ∀ k : Nat, stN k 0#16 = 0#16
  | 0 => rfl
  | k + 1 => by rw [stN]; exact stN_0 k
theorem stN_one (k : Nat) (h : k ≤ 15) : stN k 1#16 = 1#16 <<< k := by
  rcases (by omega : k = 0 ∨ k = 1 ∨ k = 2 ∨ k = 3 ∨ k = 4 ∨ k = 5 ∨ k = 6 ∨ k = 7 ∨ k = 8 ∨ k = 9 ∨ k = 10 ∨ k = 11 ∨ k = 12 ∨ k = 13 ∨ k = 14 ∨ k = 15) with rfl | rfl | rfl | rfl | rfl | rfl | rfl | rfl | rfl | rfl | rfl | rfl | rfl | rfl | rfl | rfl <;> decide +kernel

/-! ### the sum of a row -/
def wordOf (x : Int) : BitVec 16 := BitVec.ofNat 16 (x.toNat * 256)
def crcB (r : BitVec 16) (l : List Int) : BitVec 16 := l.foldl (fun r x => stN 8 (r ^^^ wordOf x)) r
theorem crcB_cons (r : BitVec 16) (x : Int) (l : List Int) : crcB r (x :: l) = crcB (stN 8 (r ^^^ wordOf x)) l := rfl
theorem crcB_add (l : List Int) : ∀ (s r : BitVec 16), crcB (r ^^^ s) l = crcB r l ^^^ stN (8 * l.length) s := by
  induction l with
  | nil => intro s r; rfl
  | cons x l ih =>
    intro s r
    rw [crcB_cons, crcB_cons, BitVec.xor_assoc, BitVec.xor_comm s, ← BitVec.xor_assoc, stN_xor, ih, stN_stN, List.length_cons]
    congr 2
    omega
theorem crcB_set (y : Int) (D : BitVec 16) (l : List Int) : ∀ (q : Nat) (r : BitVec 16) (h : q < l.length), wordOf y = wordOf l[q] ^^^ D → crcB r (l.set q y) = crcB r l ^^^ stN (8 * (l.length - q)) D := by
  induction l with
  | nil => intro q r h; simp at h
  | cons x l ih =>
    intro q r h e
    cases q with
    | zero =>
      rw [List.set_cons_zero, crcB_cons, crcB_cons, e, List.getElem_cons_zero, ← BitVec.xor_assoc, stN_xor, crcB_add, stN_stN]
      congr 2
      simp only [List.length_cons]
      omega
    | succ q =>
      rw [List.set_cons_succ, crcB_cons, crcB_cons, ih q _ (by simpa using h) (by simpa using e)]
      congr 2
      simp

/-! ### the program's sum -/
theorem wrap_u16 (n : Int) : IntKind.u16.wrap n = n % 65536 := by simp [IntKind.wrap, IntKind.bits, IntKind.signed]
theorem bits_xor16 (a b : BitVec 16) : Go.bits .xor .u16 (a.toNat : Int) (b.toNat : Int) = ((a ^^^ b).toNat : Int) := by
  unfold Go.bits
  simp only [IntKind.bits, BitVec.ofInt_natCast, BitVec.ofNat_toNat, BitVec.setWidth_eq, wrap_u16]
  have := (a ^^^ b).isLt
  exact Int.emod_eq_of_lt (Int.natCast_nonneg _) (by show ((a ^^^ b).toNat : Int) < 65536; omega)
theorem shl_eq (r : BitVec 16) : IntKind.u16.wrap ((r.toNat : Int) * 2) = ((r <<< 1).toNat : Int) := by
  rw [wrap_u16, BitVec.toNat_shiftLeft, Nat.shiftLeft_eq]
  omega
theorem msb_if (r : BitVec 16) : (if r.msb then 4129#16 else 0#16).toNat = 4129 * (r.toNat / 32768) := by
  have h := r.isLt
  rw [BitVec.msb_eq_decide]
  by_cases c : 2 ^ (16 - 1) ≤ r.toNat
  · rw [decide_eq_true c, if_pos rfl, show r.toNat / 32768 = 1 by omega]
    rfl
  · rw [decide_eq_false c, if_neg (by simp), show r.toNat / 32768 = 0 by omega]
    rfl
theorem step_eq (r : BitVec 16) : Go.bits .xor .u16 (IntKind.u16.wrap ((r.toNat : Int) * 2)) (IntKind.u16.wrap (4129 * ((r.toNat : Int) / 32768))) = ((st r).toNat : Int) := by
  have h := r.isLt
  rw [shl_eq, wrap_u16, show (4129 * ((r.toNat : Int) / 32768)) % 65536 = (((if r.msb then 4129#16 else 0#16).toNat : Nat) : Int) by rw [msb_if]; omega, bits_xor16]
  rfl
theorem word_eq (x : Int) (h : 0 ≤ x ∧ x ≤ 255) : IntKind.u16.wrap ((IntKind.u16.wrap x) * 256) = ((wordOf x).toNat : Int) := by
  unfold wordOf
  rw [wrap_u16, wrap_u16, BitVec.toNat_ofNat]
  omega
theorem wr_in (n : Int) (h : -9223372036854775808 ≤ n ∧ n ≤ 9223372036854775807) : wrap64 n = n := by unfold wrap64; omega
theorem nextI (i : Nat) (h : i < 9223372036854775807) : wrap64 ((i : Int) + 1) = ((i + 1 : Nat) : Int) := by rw [wr_in _ (by omega)]; rfl
theorem crc_l2 (x9 : List (List Int)) (x10 x11 : Int) (x15 : List Int) (x16 x17 : Int) : ∀ (d i k : Nat) (r : BitVec 16), i + d = 8 → octet_Crc.l2 (k + d + 1) (r.toNat : Int) x9 x10 x11 x15 x16 x17 (i : Int) = octet_Crc.l1 k ((stN d r).toNat : Int) x9 x10 x11 x15 x16 (wrap64 (x17 + 1))
  | 0, i, k, r, h => by
    rw [octet_Crc.l2, if_neg (by omega)]
    rfl
  | d + 1, i, k, r, h => by
    rw [octet_Crc.l2, if_pos (by omega), step_eq, nextI i (by omega)]
    exact crc_l2 x9 x10 x11 x15 x16 x17 d (i + 1) k (st r) (by omega)
theorem crc_l1 (x9 : List (List Int)) (x10 x11 : Int) (l : List Int) (hl : ∀ x ∈ l, 0 ≤ x ∧ x ≤ 255) (hb : l.length < 9223372036854775807) : ∀ (d i k : Nat) (r : BitVec 16), i + d = l.length → octet_Crc.l1 (k + 10 * d + 1) (r.toNat : Int) x9 x10 x11 l (l.length : Int) (i : Int) = octet_Crc.l0 k ((crcB r (l.drop i)).toNat : Int) x9 x10 (wrap64 (x11 + 1))
  | 0, i, k, r, h => by
    rw [octet_Crc.l1, if_neg (by omega), List.drop_eq_nil_of_le (by omega)]
    rfl
  | d + 1, i, k, r, h => by
    have hi : i < l.length := by omega
    have hrd : rd l (i : Int) = l[i] := by
      unfold rd
      rw [Int.toNat_natCast, List.getD_eq_getElem?_getD, List.getElem?_eq_getElem hi]
      rfl
    rw [show k + 10 * (d + 1) + 1 = (k + 10 * d + 1) + 8 + 1 + 1 by omega, octet_Crc.l1, if_pos (by omega), if_pos (by omega), if_pos (by omega), hrd, word_eq _ (hl _ (List.getElem_mem hi)), bits_xor16]
    have := crc_l2 x9 x10 x11 l (l.length : Int) (i : Int) 8 0 (k + 10 * d + 1) (r ^^^ wordOf l[i]) rfl
    rw [show ((0 : Nat) : Int) = 0 from rfl] at this
    rw [this, nextI i (by omega), crc_l1 x9 x10 x11 l hl hb d (i + 1) k _ (by omega), List.drop_eq_getElem_cons hi, crcB_cons]
def fuelP (ps : List (List Int)) : Nat := (ps.map fun p => 10 * p.length + 2).sum
theorem fuelP_cons (x : List Int) (l : List (List Int)) : fuelP (x :: l) = 10 * x.length + 2 + fuelP l := by simp [fuelP]
theorem crcB_flat (r : BitVec 16) (x : List Int) (l : List (List Int)) : crcB r (x :: l).flatten = crcB (crcB r x) l.flatten := by simp [crcB, List.foldl_append]
theorem crc_l0 (ps : List (List Int)) (hp : ps.length < 9223372036854775807) (hps : ∀ l ∈ ps, l.length < 9223372036854775807 ∧ ∀ x ∈ l, 0 ≤ x ∧ x ≤ 255) : ∀ (d i k : Nat) (r : BitVec 16), i + d = ps.length → octet_Crc.l0 (k + fuelP (ps.drop i) + 1) (r.toNat : Int) ps (ps.length : Int) (i : Int) = some ((crcB r (ps.drop i).flatten).toNat : Int)
  | 0, i, k, r, h => by
    rw [octet_Crc.l0, if_neg (by omega), List.drop_eq_nil_of_le (by omega)]
    rfl
  | d + 1, i, k, r, h => by
    have hi : i < ps.length := by omega
    have hrd : rd_L1 ps (i : Int) = ps[i] := by
      unfold rd_L1
      rw [Int.toNat_natCast, List.getD_eq_getElem?_getD, List.getElem?_eq_getElem hi]
      rfl
    obtain ⟨h1, h2⟩ := hps _ (List.getElem_mem hi)
    rw [List.drop_eq_getElem_cons hi]
    rw [fuelP_cons, crcB_flat, show k + (10 * ps[i].length + 2 + fuelP (ps.drop (i + 1))) + 1 = ((k + fuelP (ps.drop (i + 1)) + 1) + 10 * ps[i].length + 1) + 1 by omega, octet_Crc.l0, if_pos (by omega), if_pos (by omega), if_pos (by omega), hrd]
    have := crc_l1 ps (ps.length : Int) (i : Int) ps[i] h2 h1 ps[i].length 0 (k + fuelP (ps.drop (i + 1)) + 1) r (by omega)
    rw [show ((0 : Nat) : Int) = 0 from rfl] at this
    rw [this, nextI i (by omega), crc_l0 ps hp hps d (i + 1) k _ (by omega), List.drop_zero]
theorem crc_f (ps : List (List Int)) (hp : ps.length < 9223372036854775807) (hps : ∀ l ∈ ps, l.length < 9223372036854775807 ∧ ∀ x ∈ l, 0 ≤ x ∧ x ≤ 255) (k : Nat) : octet_Crc.f (k + fuelP ps + 1) ps = some ((crcB 65535#16 ps.flatten).toNat : Int) := by
  have := crc_l0 ps hp hps ps.length 0 k 65535#16 (by omega)
  exact this

end Go.Proofs.Ytbhlalnpefijkaa.Pure
