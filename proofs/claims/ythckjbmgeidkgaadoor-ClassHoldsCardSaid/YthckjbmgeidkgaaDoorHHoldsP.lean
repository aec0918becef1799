/- what a configuration that may be has, as ClassHolds asks it. -/
import Derived.Test.YthckjbmgeidkgaaDoorHHeads
import Derived.Shelf.Spec.TrailingZeros
namespace Go.Proofs.YthckjbmgeidkgaaDoor.XA
set_option linter.unusedVariables false
set_option linter.unusedSimpArgs false
open Go.RowKit Go.WideMaps Go.Maps Go.Proofs.YthckjbmgeidkgaaDoorW.PrintWords Go.Proofs.YthckjbmgeidkgaaDoorW.PrintLast Go.Proofs.YthckjbmgeidkgaaDoorW.PrintMore
theorem bits_or_u32_nat (a b : Nat) (ha : a < 4294967296) (hb : b < 4294967296) : bits .or .u32 (a : Int) (b : Int) = ((a ||| b : Nat) : Int) := by
  have h1 : a ||| b < 4294967296 := Nat.or_lt_two_pow (n := 32) ha hb
  unfold bits
  simp only [show IntKind.u32.bits = 32 from rfl]
  rw [BitVec.ofInt_natCast, BitVec.ofInt_natCast]
  show IntKind.u32.wrap ((((BitVec.ofNat 32 a) ||| (BitVec.ofNat 32 b)).toNat : Nat) : Int) = _
  rw [BitVec.toNat_or, BitVec.toNat_ofNat, BitVec.toNat_ofNat, Nat.mod_eq_of_lt ha, Nat.mod_eq_of_lt hb]
  unfold IntKind.wrap
  simp only [show IntKind.u32.signed = false from rfl, show IntKind.u32.bits = 32 from rfl]
  simp
  omega
theorem or_add {b m : Int} (hb : 0 ≤ b) (hb1 : b ≤ 4294967295) (hm : 0 ≤ m) (hm1 : m ≤ 4294967295) (h : bits .and .u32 b m = 0) : bits .or .u32 b m = b + m ∧ b + m ≤ 4294967295 := by
  obtain ⟨p, rfl⟩ := Int.eq_ofNat_of_zero_le hb
  obtain ⟨q, rfl⟩ := Int.eq_ofNat_of_zero_le hm
  rw [bits_and_u32_nat p q (by omega) (by omega)] at h
  have h0 : p &&& q = 0 := by exact_mod_cast h
  have h1 : p ||| q < 2 ^ 32 := Nat.or_lt_two_pow (by omega) (by omega)
  have h3 := BitVec.add_eq_or_of_and_eq_zero (BitVec.ofNat 33 p) (BitVec.ofNat 33 q) (by
    apply BitVec.eq_of_toNat_eq
    rw [BitVec.toNat_and, BitVec.toNat_ofNat, BitVec.toNat_ofNat, Nat.mod_eq_of_lt (by omega), Nat.mod_eq_of_lt (by omega), h0]
    rfl)
  have h4 := congrArg BitVec.toNat h3
  rw [BitVec.toNat_add, BitVec.toNat_or, BitVec.toNat_ofNat, BitVec.toNat_ofNat, Nat.mod_eq_of_lt (a := p) (by omega), Nat.mod_eq_of_lt (a := q) (by omega), Nat.mod_eq_of_lt (by omega)] at h4
  have h2 : p ||| q = p + q := h4.symm
  rw [bits_or_u32_nat p q (by omega) (by omega), h2]
  exact ⟨by push_cast; rfl, by omega⟩
def MasksOk (c : S33) : Prop := ∀ x ∈ c.f5, 0 ≤ x.f1 ∧ x.f1 ≤ 4294967295
structure TaskH (c : S33) (i : Nat) (t : S49) : Prop where
  p0 : 0 ≤ t.f1
  p1 : t.f1 ≤ 63
  a0 : 1 ≤ t.f3
  ev : ∀ e ∈ t.f6, 0 ≤ e ∧ e < (c.f5.length : Int)
  rs : ∀ e ∈ t.f5, 0 ≤ e ∧ e < (c.f4.length : Int)
  mks : (maskF c.f5 0 t.f6).isSome = true
  on : t.f6.length = 0 ∨ t.f3 = 1
  nm : ∀ k, k < i → ((c.f3.getD k z49).f0.toList == t.f0.toList) = false
structure HoldsH (c : S33) : Prop where
  t0 : 1 ≤ c.f3.length
  t1 : c.f3.length ≤ 256
  m0 : 1 ≤ c.f2.length
  m1 : c.f2.length ≤ 8
  task : ∀ i, i < c.f3.length → TaskH c i (c.f3.getD i z49)
  isr : ∀ i k, i < c.f8.length → k < c.f8.length → (i ≠ k → (c.f8.getD i z55).f2 ≠ (c.f8.getD k z55).f2) ∧ ¬ ((c.f8.getD i z55).f1 = 1 ∧ (c.f8.getD k z55).f1 = 2 ∧ (c.f8.getD i z55).f2 < (c.f8.getD k z55).f2)
  alm : ∀ i, i < c.f7.length → 0 ≤ (c.f7.getD i z60).f1 ∧ (c.f7.getD i z60).f1 < (c.f6.length : Int) ∧ ((c.f7.getD i z60).f3.length ≠ 0 → 1 ≤ (c.f7.getD i z60).f4 ∧ (c.f7.getD i z60).f4 ≤ (c.f6.getD (c.f7.getD i z60).f1.toNat z62).f1)
theorem if0 {p : Bool} {n : Int} (hn : n ≠ 0) (h : (if p = true then (0 : Int) else n) = 0) : p = true := by
  split at h
  · assumption
  · exact absurd h hn
theorem noclash {is : List S55} {i : Nat} {t : S55} (h : isrClash is i t = false) (k : Nat) (hk : k < i) : clash (is.getD k z55) t = false := by
  rcases hc : clash (is.getD k z55) t with _ | _
  · rfl
  · rw [clash_yes hk hc] at h
    cases h
theorem holds_of {c : S33} (h : verV c = okVer) : HoldsH c := by
  have f2 := ver_fine h kind2 (by simp [kinds])
  have f5 := ver_fine h kind5 (by simp [kinds])
  have f7 := ver_fine h kind7 (by simp [kinds])
  have f8 := ver_fine h kind8 (by simp [kinds])
  have g2 := f2.lo
  have g2' := f2.hi
  have g5 := f5.lo
  have g5' := f5.hi
  simp only [kind2] at g2 g2'
  simp only [kind5] at g5 g5'
  have hcl : ∀ i, i < c.f8.length → ∀ k, k < i → clash (c.f8.getD k z55) (c.f8.getD i z55) = false := fun i hi k hk => by
    have h3 := f8.chk i hi eIsrRules (by simp [kind8])
    unfold eIsrRules at h3
    split at h3
    · omega
    · rename_i hn
      simp only [Bool.or_eq_true, not_or, Bool.not_eq_true] at hn
      exact noclash hn.2 k hk
  refine ⟨by omega, by omega, by omega, by omega, fun i hi => ?_, fun i k hi hk => ?_, fun i hi => ?_⟩
  · obtain ⟨h1, h2, h3, h4⟩ := task_fine h i hi
    have hn := f5.new i hi
    simp only [kind5] at hn
    unfold taskVal at h1
    unfold taskRefs at h2
    unfold taskRules at h4
    simp only [Bool.and_eq_true, decide_eq_true_eq, Bool.or_eq_true, beq_iff_eq] at h1 h2 h4
    refine ⟨h1.1.1.1, h1.1.1.2, h1.1.2, rise_mem h2.1.2, rise_mem h2.1.1.2, h4.1.1, h4.1.2, fun k hk => ?_⟩
    unfold memS at hn
    rw [List.any_eq_false] at hn
    have := hn _ (List.mem_map.mpr ⟨k, List.mem_range.mpr hk, rfl⟩)
    rw [ByteArray.toList_eq, ByteArray.toList_eq]
    simpa using this
  · rcases Nat.lt_trichotomy i k with h1 | h1 | h1
    · have := hcl k hk i h1
      unfold clash at this
      simp only [Bool.or_eq_false_iff, Bool.and_eq_false_iff, beq_eq_false_iff_ne, decide_eq_false_iff_not] at this
      exact ⟨fun _ => this.1.1, fun hx => by omega⟩
    · exact ⟨fun hx => absurd h1 hx, fun hx => by rw [h1] at hx; omega⟩
    · have := hcl i hi k h1
      unfold clash at this
      simp only [Bool.or_eq_false_iff, Bool.and_eq_false_iff, beq_eq_false_iff_ne, decide_eq_false_iff_not] at this
      exact ⟨fun _ hx => this.1.1 hx.symm, fun hx => by omega⟩
  · have h1 := if0 (by decide) (f7.chk i hi eAlmCtr (by simp [kind7]))
    have h2 := if0 (by decide) (f7.chk i hi eAlmTimes (by simp [kind7]))
    simp only [Bool.and_eq_true, decide_eq_true_eq] at h1
    refine ⟨h1.1, h1.2, fun hn => ?_⟩
    unfold almTimes at h2
    rw [if_neg hn] at h2
    simp only [Bool.and_eq_true, decide_eq_true_eq] at h2
    exact ⟨h2.1.1, h2.1.2⟩
end Go.Proofs.YthckjbmgeidkgaaDoor.XA
