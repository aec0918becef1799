/- OctetBurst: bits turned among sixteen that stand side by side are told by the sum, in plain Lean. -/
import Derived.Test.YtbhlalnpefijkaaHBurst
import Derived.Test.YtbhlalnpefijkaaHCrc
namespace Go.Proofs.Ytbhlalnpefijkaa.Pure
set_option linter.unusedVariables false
set_option linter.unusedSimpArgs false
open Go.RowKit Go.Proofs.Ytbhlalnpefijkaa.XC Go.Proofs.YtbhlalnpefijkaaW.PrintWords Go.Proofs.YtbhlalnpefijkaaW.PrintLast

def Byte (x : Int) : Prop := 0 ≤ x ∧ x ≤ 255
theorem xor8 (x y : Int) (hx : Byte x) (hy : Byte y) : Go.bits .xor .u8 x y = ((x.toNat ^^^ y.toNat : Nat) : Int) := by
  obtain ⟨a, rfl⟩ := Int.eq_ofNat_of_zero_le hx.1
  obtain ⟨b, rfl⟩ := Int.eq_ofNat_of_zero_le hy.1
  have ha : a < 2 ^ 8 := by have := hx.2; omega
  have hb : b < 2 ^ 8 := by have := hy.2; omega
  have hab : a ^^^ b < 2 ^ 8 := Nat.xor_lt_two_pow ha hb
  have e : (BitVec.ofInt 8 (a : Int) ^^^ BitVec.ofInt 8 (b : Int)).toNat = a ^^^ b := by
    rw [BitVec.ofInt_natCast, BitVec.ofInt_natCast, BitVec.toNat_xor, BitVec.toNat_ofNat, BitVec.toNat_ofNat, Nat.mod_eq_of_lt ha, Nat.mod_eq_of_lt hb]
  show IntKind.u8.wrap ((BitVec.ofInt 8 (a : Int) ^^^ BitVec.ofInt 8 (b : Int)).toNat : Int) = _
  rw [e, IntKind.wrap_u8, Int.toNat_natCast, Int.toNat_natCast]
  omega
theorem xor8_byte (x y : Int) (hx : Byte x) (hy : Byte y) : Byte (Go.bits .xor .u8 x y) := by
  rw [xor8 x y hx hy]
  have hab : x.toNat ^^^ y.toNat < 2 ^ 8 := Nat.xor_lt_two_pow (by have := hx.1; have := hx.2; omega) (by have := hy.1; have := hy.2; omega)
  unfold Byte
  omega
theorem word_xor (x y : Int) (hx : Byte x) (hy : Byte y) : wordOf (Go.bits .xor .u8 x y) = wordOf x ^^^ wordOf y := by
  rw [xor8 x y hx hy]
  unfold wordOf
  rw [Int.toNat_natCast, ← BitVec.ofNat_xor, show (256 : Nat) = 2 ^ 8 from rfl, ← Nat.shiftLeft_eq, ← Nat.shiftLeft_eq, ← Nat.shiftLeft_eq, Nat.shiftLeft_xor_distrib]
theorem word_bit (j : Nat) (h : j ≤ 7) : wordOf (128 / 2 ^ j) = 1#16 <<< (15 - j) ∧ Byte (128 / 2 ^ j) := by
  unfold Byte
  rcases (by omega : j = 0 ∨ j = 1 ∨ j = 2 ∨ j = 3 ∨ j = 4 ∨ j = 5 ∨ j = 6 ∨ j = 7) with rfl | rfl | rfl | rfl | rfl | rfl | rfl | rfl <;> decide +kernel

/-- is the bit turned? -/
def flipB (n k : Nat) (mask : Int) (i : Nat) : Bool := decide (k + i < 8 * n) && (Go.bits .and .u16 mask (32768 / 2 ^ i) != 0)
theorem turn1_flip (n k : Nat) (mask : Int) (c : List Int) (i : Nat) : turn1 n k mask c i = if flipB n k mask i = true then c.set ((k + i) / 8) (Go.bits .xor .u8 (rdOf 0 c (((k : Int) + i) / 8)) (128 / 2 ^ ((k + i) % 8))) else c := by
  unfold turn1 flipB
  by_cases h1 : k + i < 8 * n
  · cases h2 : (Go.bits .and .u16 mask (32768 / 2 ^ i) != 0) <;> simp [h1]
  · simp [h1]
def XX (n k : Nat) (mask : Int) : Nat → BitVec 16
  | 0 => 0#16
  | i + 1 => XX n k mask i ^^^ (if flipB n k mask i = true then 1#16 <<< (15 - i) else 0#16)
theorem XX_bit (n k : Nat) (mask : Int) : ∀ (i : Nat), i ≤ 16 → ∀ j, j < 16 → (XX n k mask i).getLsbD j = (decide (15 - j < i) && flipB n k mask (15 - j))
  | 0, _, j, _ => by simp [XX]
  | i + 1, hi, j, hj => by
    rw [XX, BitVec.getLsbD_xor, XX_bit n k mask i (by omega) j hj]
    by_cases e : 15 - j = i
    · have hj' : j = 15 - i := by omega
      subst hj'
      have e2 : 15 - (15 - i) = i := by omega
      rw [e2]
      cases hf : flipB n k mask i
      · simp
      · simp
        omega
    · have hb : (if flipB n k mask i = true then 1#16 <<< (15 - i) else 0#16).getLsbD j = false := by
        split
        · rw [BitVec.getLsbD_shiftLeft]
          simp
          intro _ h
          by_cases h0 : j - (15 - i) = 0
          · omega
          · simp [h0]
        · simp
      rw [hb, Bool.xor_false]
      congr 1
      rw [decide_eq_decide]
      omega
theorem XX_none (n k : Nat) (mask : Int) (h : XX n k mask 16 = 0#16) (i : Nat) (hi : i < 16) : flipB n k mask i = false := by
  have := XX_bit n k mask 16 (Nat.le_refl _) (15 - i) (by omega)
  rw [h, show 15 - (15 - i) = i by omega] at this
  simpa [hi] using this.symm
theorem turn_bytes (b : List Int) (k : Nat) (mask : Int) (hb : ∀ x ∈ b, Byte x) : ∀ i, ∀ x ∈ turnN b k mask i, Byte x
  | 0 => hb
  | i + 1 => by
    intro x hx
    rw [turnN_succ, turn1_flip] at hx
    split at hx
    · rcases List.mem_or_eq_of_mem_set hx with h | h
      · exact turn_bytes b k mask hb i x h
      · rw [h]
        refine xor8_byte _ _ ?_ (word_bit _ (by omega)).2
        unfold rdOf
        rw [List.getD_eq_getElem?_getD]
        cases hg : (turnN b k mask i)[(((k : Int) + i) / 8).toNat]? with
        | none => exact ⟨by decide, by decide⟩
        | some y => exact turn_bytes b k mask hb i y (List.mem_of_getElem? hg)
    · exact turn_bytes b k mask hb i x hx
theorem crc_turn (b : List Int) (k : Nat) (mask : Int) (hb : ∀ x ∈ b, Byte x) (hk : k < 8 * b.length) (R : BitVec 16) : ∀ i, i ≤ 16 → crcB R (turnN b k mask i) = crcB R b ^^^ stN (8 * b.length - k) (XX b.length k mask i)
  | 0, _ => by
    rw [XX, stN_0, BitVec.xor_zero]
    rfl
  | i + 1, hi => by
    have ih := crc_turn b k mask hb hk R i (by omega)
    rw [turnN_succ, turn1_flip, XX]
    cases hf : flipB b.length k mask i
    · rw [if_neg (by simp), if_neg (by simp), BitVec.xor_zero]
      exact ih
    · have hin : k + i < 8 * b.length := by
        unfold flipB at hf
        simp at hf
        exact hf.1
      have hl := turnN_length b k mask i
      have hq : (k + i) / 8 < (turnN b k mask i).length := by rw [hl]; omega
      have hbit := word_bit ((k + i) % 8) (by omega)
      have hrd : rdOf 0 (turnN b k mask i) (((k : Int) + i) / 8) = (turnN b k mask i)[(k + i) / 8] := by
        unfold rdOf
        rw [show (((k : Int) + i) / 8).toNat = (k + i) / 8 by omega, List.getD_eq_getElem?_getD, List.getElem?_eq_getElem hq]
        rfl
      rw [if_pos rfl, if_pos rfl, crcB_set _ (1#16 <<< (15 - (k + i) % 8)) _ _ _ hq (by rw [hrd, word_xor _ _ (turn_bytes b k mask hb i _ (List.getElem_mem hq)) hbit.2, hbit.1]), ih, hl, stN_xor, BitVec.xor_assoc]
      congr 2
      rw [← stN_one _ (by omega), ← stN_one _ (by omega), stN_stN, stN_stN]
      congr 1
      omega
theorem turn_same (b : List Int) (k : Nat) (mask : Int) (h : ∀ i, i < 16 → flipB b.length k mask i = false) : ∀ i, i ≤ 16 → turnN b k mask i = b
  | 0, _ => rfl
  | i + 1, hi => by rw [turnN_succ, turn_same b k mask h i (by omega), turn1_flip, h i (by omega)]; rfl
/-- what is turned is told -/
theorem burst (b : List Int) (k : Nat) (mask : Int) (hb : ∀ x ∈ b, Byte x) (hk : k < 8 * b.length) (R : BitVec 16) (he : crcB R (turnN b k mask 16) = crcB R b) : turnN b k mask 16 = b := by
  rw [crc_turn b k mask hb hk R 16 (Nat.le_refl _)] at he
  have hz : stN (8 * b.length - k) (XX b.length k mask 16) = 0#16 := by
    have := congrArg (fun x => crcB R b ^^^ x) he
    simpa [← BitVec.xor_assoc] using this
  exact turn_same b k mask (XX_none _ _ _ (stN_zero _ _ hz)) 16 (Nat.le_refl _)

/-! ### copies, and what is the same -/
theorem rd_at (l : List Int) (i : Nat) (hi : i < l.length) : rd l (i : Int) = l[i] := by
  unfold rd
  rw [Int.toNat_natCast, List.getD_eq_getElem?_getD, List.getElem?_eq_getElem hi]
  rfl
theorem copy_l0 (l : List Int) (hb : l.length < 9223372036854775807) : ∀ (d i k : Nat) (x : List Int), i + d = l.length → d < k → x.length = l.length → x.take i = l.take i → tappetref01_Copy.l0 k l x (i : Int) = some l
  | 0, i, k + 1, x, h, _, hx, ht => by
    rw [tappetref01_Copy.l0, if_neg (by omega), ← List.take_of_length_le (show x.length ≤ i by omega), ht, List.take_of_length_le (by omega)]
  | d + 1, i, k + 1, x, h, hk, hx, ht => by
    rw [tappetref01_Copy.l0, if_pos (by omega), if_pos (by omega), if_pos (by omega), nextI i (by omega), rd_at l i (by omega), Int.toNat_natCast]
    refine copy_l0 l hb d (i + 1) k _ (by omega) (by omega) (by simp [hx]) ?_
    rw [List.take_succ_eq_append_getElem (by rw [List.length_set]; omega), List.take_succ_eq_append_getElem (by omega), List.take_set_of_le (by omega), ht]
    simp
theorem copy_f (l : List Int) (hb : l.length ≤ 281474976710656) (k : Nat) (hk : l.length < k) : tappetref01_Copy.f k l = some l := by
  unfold tappetref01_Copy.f
  rw [if_pos (by omega), if_pos (by omega)]
  exact copy_l0 l (by omega) l.length 0 k _ (by omega) hk (by simp) (by simp)
theorem same_l0 (a b : List Int) (hb : a.length < 9223372036854775807) (hl : a.length = b.length) : ∀ (d i k : Nat), i + d = a.length → d < k → tappetref01_Same.l0 k a b (i : Int) = some (decide (a.drop i = b.drop i))
  | 0, i, k + 1, h, _ => by
    rw [tappetref01_Same.l0, if_neg (by omega), List.drop_eq_nil_of_le (by omega), List.drop_eq_nil_of_le (by omega)]
    simp
  | d + 1, i, k + 1, h, hk => by
    rw [tappetref01_Same.l0, if_pos (by omega), if_pos (by omega), if_pos (by omega), rd_at a i (by omega), rd_at b i (by omega), nextI i (by omega), same_l0 a b hb hl d (i + 1) k (by omega) (by omega), List.drop_eq_getElem_cons (show i < a.length by omega), List.drop_eq_getElem_cons (show i < b.length by omega)]
    by_cases e : a[i] = b[i]
    · rw [if_pos e]
      simp only [List.cons.injEq, e, true_and]
    · rw [if_neg e]
      simp only [List.cons.injEq, e, false_and, decide_false]
theorem same_f (a b : List Int) (hb : a.length < 9223372036854775807) (k : Nat) (hk : a.length < k) : tappetref01_Same.f k a b = some (decide (a = b)) := by
  unfold tappetref01_Same.f
  by_cases hl : a.length = b.length
  · rw [if_pos (by omega)]
    have := same_l0 a b hb hl a.length 0 k (by omega) hk
    rw [List.drop_zero, List.drop_zero] at this
    exact this
  · rw [if_neg (by omega), decide_eq_false]
    intro e
    exact hl (by rw [e])

theorem burst_row (W : World) (A0 : Option Addr) (c0 : Nat) (l0 : List Int) (hr : (Kd.int .u8).C W A0 l0.length l0) (hc : l0.length ≤ c0) (hw : ∀ x ∈ l0, (Lit.int .u8 x).wf = true) (z : l0.length * 1 ≤ 140737488351232)
    (a1 : Int) (w1 : (Lit.int .i64 a1).wf = true) (a2 : Int) (w2 : (Lit.int .u16 a2).wf = true) :
    Calls Try.prog 5 #[.slice A0 l0.length c0, .int .i64 a1, .int .u16 a2] W fun e w' => e = .returned (.bool true) ∧ Below W.heap.size W w' := by
  have hb : ∀ x ∈ l0, Byte x := by
    intro x hx
    have := hw x hx
    simp [Lit.wf, IntKind.min, IntKind.max, IntKind.signed, IntKind.bits] at this
    unfold Byte
    omega
  have htb := turn_bytes l0 (atP l0 a1) a2 hb 16
  have hl := turnN_length l0 (atP l0 a1) a2 16
  have hx := crc_f [l0] (by simp) (by intro l hl; simp at hl; subst hl; exact ⟨by omega, hb⟩) 0
  have hy := crc_f [turnN l0 (atP l0 a1) a2 16] (by simp) (by intro l h; simp at h; subst h; exact ⟨by omega, htb⟩) 0
  refine burst_walk W A0 c0 l0 hr hc hw z a1 w1 a2 w2 (l0.length + 1) (copy_f l0 (by omega) _ (by omega)) (l0.length + 1) _ (same_f l0 _ (by omega) _ (by omega)) _ _ _ _ hx hy ?_
  simp only [List.flatten_cons, List.flatten_nil, List.append_nil]
  by_cases he : turnN l0 (atP l0 a1) a2 16 = l0
  · rw [he]
    simp
  · have hne : decide (l0 = turnN l0 (atP l0 a1) a2 16) = false := decide_eq_false fun h => he h.symm
    rw [hne, beq_iff_eq, beq_eq_false_iff_ne]
    intro h
    have h2 : crcB 65535#16 (turnN l0 (atP l0 a1) a2 16) = crcB 65535#16 l0 := BitVec.eq_of_toNat_eq (by omega)
    by_cases hp : 0 < l0.length
    · exact he (burst l0 _ a2 hb (at_lt l0 a1 hp) _ h2)
    · exact he (turnN_out l0 (atP l0 a1) a2 0 (by omega) 16)

end Go.Proofs.Ytbhlalnpefijkaa.Pure
