/- OctetBurst: the walk through the statement's own code: the bits that are turned, then the two sums held against each other. -/
import Derived.Test.YtbhlalnpefijkaaXCx2
namespace Go.Proofs.Ytbhlalnpefijkaa.XC
set_option linter.unusedVariables false
set_option linter.unusedSimpArgs false
open Go.RowKit Go.Proofs.YtbhlalnpefijkaaW.PrintWords Go.Proofs.YtbhlalnpefijkaaW.PrintLast Go.Proofs.YtbhlalnpefijkaaW.PrintMore
/-- a round of the law's: the bit is turned where the mask bears it -/
def turn1 (n : Nat) (at_ : Nat) (mask : Int) (c : List Int) (i : Nat) : List Int :=
  if at_ + i < 8 * n ∧ (Go.bits .and .u16 mask (32768 / 2 ^ i) != 0) = true then c.set ((at_ + i) / 8) (Go.bits .xor .u8 (rdOf 0 c (((at_ : Int) + i) / 8)) (128 / 2 ^ ((at_ + i) % 8))) else c
def turnN (b : List Int) (at_ : Nat) (mask : Int) (i : Nat) : List Int := (List.range i).foldl (turn1 b.length at_ mask) b
theorem turn1_length (n at_ : Nat) (mask : Int) (c : List Int) (i : Nat) : (turn1 n at_ mask c i).length = c.length := by
  unfold turn1
  split <;> simp
theorem turnN_succ (b : List Int) (at_ : Nat) (mask : Int) (i : Nat) : turnN b at_ mask (i + 1) = turn1 b.length at_ mask (turnN b at_ mask i) i := by
  unfold turnN
  rw [List.range_succ, List.foldl_append]
  rfl
theorem turnN_length (b : List Int) (at_ : Nat) (mask : Int) : ∀ i, (turnN b at_ mask i).length = b.length
  | 0 => rfl
  | i + 1 => by rw [turnN_succ, turn1_length, turnN_length b at_ mask i]
theorem turnN_out (b : List Int) (at_ : Nat) (mask : Int) (i : Nat) (h : 8 * b.length ≤ at_ + i) : ∀ d, turnN b at_ mask (i + d) = turnN b at_ mask i
  | 0 => rfl
  | d + 1 => by
    rw [← Nat.add_assoc, turnN_succ, turnN_out b at_ mask i h d, turn1, if_neg (by omega)]
/-- where the first bit lies -/
def atP (l : List Int) (a : Int) : Nat := ((a % 18446744073709551616) % (8 * (l.length : Int))).toNat

theorem at_tmod (l : List Int) (a : Int) (h : 0 < l.length) : Int.tmod (IntKind.u64.wrap a) (8 * (l.length : Int)) = (atP l a : Int) := by
  have e : IntKind.u64.wrap a = a % 18446744073709551616 := by simp [IntKind.wrap, IntKind.bits, IntKind.signed]
  have h1 : 0 ≤ a % 18446744073709551616 := Int.emod_nonneg _ (by decide)
  have h2 : 0 ≤ (a % 18446744073709551616) % (8 * (l.length : Int)) := Int.emod_nonneg _ (by omega)
  rw [e, Int.tmod_eq_emod_of_nonneg h1]
  unfold atP
  omega
theorem at_lt (l : List Int) (a : Int) (h : 0 < l.length) : atP l a < 8 * l.length := by
  have h2 : (a % 18446744073709551616) % (8 * (l.length : Int)) < 8 * (l.length : Int) := Int.emod_lt_of_pos _ (by omega)
  have h3 : 0 ≤ (a % 18446744073709551616) % (8 * (l.length : Int)) := Int.emod_nonneg _ (by omega)
  unfold atP
  omega
theorem row_of (w : World) (A : Option Addr) (c : Nat) (l : List Int) (h : (Kd.int .u8).C w A l.length l) (hc : l.length ≤ c) (t : TypeId) (fr : Nat × Nat) :
    (Kd.slice 5 (Kd.int .u8)).C (w.alloc (.cells #[.slice A l.length c] t fr)) (some ⟨w.heap.size, 0, none⟩) [l].length [l] := by
  refine ⟨rfl, by simp, fun _ => ⟨_, rfl, fun j p hj => ?_⟩⟩
  obtain ⟨rfl, rfl⟩ : j = 0 ∧ p = l := by
    rcases j with _ | j
    · simp at hj; exact ⟨rfl, hj.symm⟩
    · simp at hj
  refine ⟨[.slice A p.length c], rfl, ⟨_, _, rfl, hc, Kd.C_below h ((Below.refl _ _).alloc (Nat.le_refl _) _)⟩, fun i u hu => ?_⟩
  rcases i with _ | i
  · simp at hu
    subst hu
    have := World.cell?_alloc_mark (w := w) #[.slice A p.length c] t fr 0
    simp [Addr.add, this]
  · simp at hu

set_option maxRecDepth 1000000 in
set_option maxHeartbeats 1000000 in
theorem burst_walk (w : World) (A0 : Option Addr) (c0 : Nat) (l0 : List Int) (hr : (Kd.int .u8).C w A0 l0.length l0) (hc : l0.length ≤ c0) (hw : ∀ x ∈ l0, (Lit.int .u8 x).wf = true) (z : l0.length * 1 ≤ 140737488351232)
    (a1 : Int) (w1 : (Lit.int .i64 a1).wf = true) (a2 : Int) (w2 : (Lit.int .u16 a2).wf = true) (kC : Nat) (hcopy : tappetref01_Copy.f kC l0 = some l0)
    (kS : Nat) (s : Bool) (hsame : tappetref01_Same.f kS l0 (turnN l0 (atP l0 a1) a2 16) = some s) (kx ky : Nat) (x y : Int) (hx : octet_Crc.f kx [l0] = some x) (hy : octet_Crc.f ky [turnN l0 (atP l0 a1) a2 16] = some y) (hq : ((x == y) == s) = true) :
    Calls Try.prog 5 #[.slice A0 l0.length c0, .int .i64 a1, .int .u16 a2] w fun e w' => e = .returned (.bool true) ∧ Below w.heap.size w w' := by
  go_enter Try.func5, Try.ntmps5
  go_wp2_with fail
  refine (tappetref01_Copy.calls kC A0 c0 l0 l0 _ hr hc hcopy).mono ?_
  rintro e w3 ⟨v1, rfl, R1, B1⟩
  obtain ⟨A, c, rfl⟩ := Kd.R_slice R1
  have HR := Lib.hid R1
  have HB := Lib.hid B1
  clear R1 B1
  by_cases hpos : 0 < l0.length
  · have hp0 : decide (0 < l0.length) = true := decide_eq_true hpos
    have hk0 := at_tmod l0 a1 hpos
    have hk1 : wrap64 (atP l0 a1 : Int) = (atP l0 a1 : Int) := by
      have h1 := at_lt l0 a1 hpos
      unfold wrap64
      omega
    have hat := at_lt l0 a1 hpos
    go_wp2_with fail
    go_loopw [9] (fun i wr => ∃ k : Nat, k ≤ 16 ∧ i = .int .i64 k ∧ (Kd.int .u8).R 5 wr w.heap.size (fun _ => True) (.slice A l0.length c) (turnN l0 (atP l0 a1) a2 k) ∧ Below w.heap.size w wr) (fun i _ => 16 - (intOf i).toNat)
    case atStart => exact ⟨0, by omega, rfl, by (with_reducible repeat (first | apply Kd.R_alloc | apply Kd.R_drewN | apply Kd.R_drew)); exact HR.out, by repeat (first | (with_reducible first | exact HB.out | apply below_alloc | apply pw_below_drewN | apply below_drew1) | exact HB.out)⟩
    case round =>
      obtain ⟨k, hk, rfl, hR, hB⟩ := hrel
      by_cases hlt : k < 16
      · by_cases hin : atP l0 a1 + k < 8 * l0.length
        · have hd1 : decide ((atP l0 a1 : Int) + k < 8 * (l0.length : Int)) = true := decide_eq_true (by omega)
          cases hbit : (Go.bits .and .u16 a2 (32768 / 2 ^ k) != 0) with
          | true =>
            obtain ⟨g, c', eg, hg1, hg2, _⟩ := Kd.R_form hR (by rw [turnN_length]; exact hpos)
            rw [turnN_length] at eg
            injection eg with eA _ ec
            subst eA ec
            have p15 : (0 : Int) ≤ ((atP l0 a1 : Int) + k) / 8 := by omega
            have q15 : ((atP l0 a1 : Int) + k) / 8 < (l0.length : Int) := by omega
            obtain ⟨hx0, hf0⟩ := Kd.R_celln 0 hR (((atP l0 a1 : Int) + k) / 8) p15 q15
            have hi : (((atP l0 a1 : Int) + k) / 8).toNat = (atP l0 a1 + k) / 8 := by omega
            rw [hi] at hx0 hf0
            have HR2 := Lib.hid hR
            have HB2 := Lib.hid hB
            clear hR hB
            replace p15 := eq_true p15
            replace q15 := eq_true q15
            go_wp2_with fail
            have hst : turnN l0 (atP l0 a1) a2 (k + 1) = (turnN l0 (atP l0 a1) a2 k).set (((atP l0 a1 : Int) + k) / 8).toNat (bits .xor .u8 (rdOf 0 (turnN l0 (atP l0 a1) a2 k) (((atP l0 a1 : Int) + k) / 8)) (128 / 2 ^ ((atP l0 a1 + k) % 8))) := by
              rw [turnN_succ, turn1, if_pos ⟨hin, hbit⟩, hi]
            have hput := Kd.R_putg HR2.out (((atP l0 a1 : Int) + k) / 8) (bits .xor .u8 (rdOf 0 (turnN l0 (atP l0 a1) a2 k) (((atP l0 a1 : Int) + k) / 8)) (128 / 2 ^ ((atP l0 a1 + k) % 8)))
            rw [← hst, hi] at hput
            go_roundw
            case rel => exact ⟨k + 1, by omega, by go_num, hput.1, below_set HB2.out hg1⟩
            case measure => simp [intOf]; omega
          | false =>
            have hst : turnN l0 (atP l0 a1) a2 (k + 1) = turnN l0 (atP l0 a1) a2 k := by
              rw [turnN_succ, turn1, if_neg (by rw [hbit]; simp)]
            go_wp2_with fail
            go_roundw
            case rel => exact ⟨k + 1, by omega, by go_num, by rw [hst]; exact hR, hB⟩
            case measure => simp [intOf]; omega
        · have hd1 : decide ((atP l0 a1 : Int) + k < 8 * (l0.length : Int)) = false := decide_eq_false (by omega)
          have hend : turnN l0 (atP l0 a1) a2 16 = turnN l0 (atP l0 a1) a2 k := by
            have := turnN_out l0 (atP l0 a1) a2 k (by omega) (16 - k)
            rw [show k + (16 - k) = 16 from by omega] at this
            exact this
          rw [← hend] at hR
          have HR2 := Lib.hid hR
          have HB2 := Lib.hid hB
          clear hR hB
          go_wp2_with fail
          obtain ⟨hLL, hcA, RC⟩ := Kd.R_reads' HR2.out
          clear hLL
          have hS := tappetref01_Same.calls kS A0 c0 l0 A c (turnN l0 (atP l0 a1) a2 16) s _ (Kd.C_below hr HB2.out) hc RC (by rw [turnN_length]; exact hcA) hsame
          rw [turnN_length] at hS
          refine hS.mono ?_
          rintro e wS ⟨rfl, ⟨nS, rfl⟩⟩
          clear hS RC
          have HR3 := Lib.hid (Kd.R_drewN HR2.out nS)
          have HB3 := Lib.hid (below_drewN HB2.out nS)
          clear HR2 HB2
          generalize hWX : World.drewN wr nS = WX at *
          clear hWX
          go_wp2_with fail
          refine (octet_Crc.calls kx (some ⟨WX.heap.size, 0, none⟩) 1 [l0] x _ (row_of WX A0 c0 l0 (Kd.C_below hr HB3.out) hc _ _) (by simp) hx).mono ?_
          rintro e w7 ⟨rfl, ⟨nd7, rfl⟩⟩
          have HB4 := Lib.hid (below_drewN (HB3.out.alloc HB3.out.size (.cells #[.slice A0 l0.length c0] 23)) nd7)
          have HR4 := Lib.hid (Kd.R_drewN (Kd.R_alloc HR3.out (.cells #[.slice A0 l0.length c0] 23)) nd7)
          generalize hWY : World.drewN (WX.alloc (.cells #[.slice A0 l0.length c0] 23)) nd7 = WY at *
          clear hWY HR3
          go_wp2_with fail
          obtain ⟨hLL, hcB, RD⟩ := Kd.R_reads' HR4.out
          clear hLL
          have hrow := row_of WY A c (turnN l0 (atP l0 a1) a2 16) RD (by rw [turnN_length]; exact hcB) 23 (0, 0)
          rw [turnN_length] at hrow
          refine (octet_Crc.calls ky (some ⟨WY.heap.size, 0, none⟩) 1 [turnN l0 (atP l0 a1) a2 16] y _ hrow (by simp) hy).mono ?_
          rintro e w8 ⟨rfl, ⟨nd8, rfl⟩⟩
          have HB5 := Lib.hid (below_drewN (HB4.out.alloc HB4.out.size (.cells #[.slice A l0.length c] 23)) nd8)
          generalize hWZ : World.drewN (WY.alloc (.cells #[.slice A l0.length c] 23)) nd8 = WZ at *
          clear hWZ
          go_wp2_with fail
          refine (tappetlaw01_heads.calls true _ rfl).mono ?_
          rintro e w9 ⟨rfl, B9⟩
          have HB6 := Lib.hid (HB5.out.trans (B9.mono HB5.out.size))
          go_wp2_with fail
          go_ret
          exact ⟨rfl, HB6.out⟩
      · obtain rfl : k = 16 := by omega
        have HR2 := Lib.hid hR
        have HB2 := Lib.hid hB
        clear hR hB
        go_wp2_with fail
        obtain ⟨hLL, hcA, RC⟩ := Kd.R_reads' HR2.out
        clear hLL
        have hS := tappetref01_Same.calls kS A0 c0 l0 A c (turnN l0 (atP l0 a1) a2 16) s _ (Kd.C_below hr HB2.out) hc RC (by rw [turnN_length]; exact hcA) hsame
        rw [turnN_length] at hS
        refine hS.mono ?_
        rintro e wS ⟨rfl, ⟨nS, rfl⟩⟩
        clear hS RC
        have HR3 := Lib.hid (Kd.R_drewN HR2.out nS)
        have HB3 := Lib.hid (below_drewN HB2.out nS)
        clear HR2 HB2
        generalize hWX : World.drewN wr nS = WX at *
        clear hWX
        go_wp2_with fail
        refine (octet_Crc.calls kx (some ⟨WX.heap.size, 0, none⟩) 1 [l0] x _ (row_of WX A0 c0 l0 (Kd.C_below hr HB3.out) hc _ _) (by simp) hx).mono ?_
        rintro e w7 ⟨rfl, ⟨nd7, rfl⟩⟩
        have HB4 := Lib.hid (below_drewN (HB3.out.alloc HB3.out.size (.cells #[.slice A0 l0.length c0] 23)) nd7)
        have HR4 := Lib.hid (Kd.R_drewN (Kd.R_alloc HR3.out (.cells #[.slice A0 l0.length c0] 23)) nd7)
        generalize hWY : World.drewN (WX.alloc (.cells #[.slice A0 l0.length c0] 23)) nd7 = WY at *
        clear hWY HR3
        go_wp2_with fail
        obtain ⟨hLL, hcB, RD⟩ := Kd.R_reads' HR4.out
        clear hLL
        have hrow := row_of WY A c (turnN l0 (atP l0 a1) a2 16) RD (by rw [turnN_length]; exact hcB) 23 (0, 0)
        rw [turnN_length] at hrow
        refine (octet_Crc.calls ky (some ⟨WY.heap.size, 0, none⟩) 1 [turnN l0 (atP l0 a1) a2 16] y _ hrow (by simp) hy).mono ?_
        rintro e w8 ⟨rfl, ⟨nd8, rfl⟩⟩
        have HB5 := Lib.hid (below_drewN (HB4.out.alloc HB4.out.size (.cells #[.slice A l0.length c] 23)) nd8)
        generalize hWZ : World.drewN (WY.alloc (.cells #[.slice A l0.length c] 23)) nd8 = WZ at *
        clear hWZ
        go_wp2_with fail
        refine (tappetlaw01_heads.calls true _ rfl).mono ?_
        rintro e w9 ⟨rfl, B9⟩
        have HB6 := Lib.hid (HB5.out.trans (B9.mono HB5.out.size))
        go_wp2_with fail
        go_ret
        exact ⟨rfl, HB6.out⟩
  · have hp0 : decide (0 < l0.length) = false := decide_eq_false hpos
    have hend : turnN l0 (atP l0 a1) a2 16 = l0 := turnN_out l0 (atP l0 a1) a2 0 (by omega) 16
    have HR2 := Lib.hid (show (Kd.int .u8).R 5 w3 w.heap.size (fun _ => True) (.slice A l0.length c) (turnN l0 (atP l0 a1) a2 16) by rw [hend]; exact HR.out)
    have HB2 := HB
    go_wp2_with fail
    obtain ⟨hLL, hcA, RC⟩ := Kd.R_reads' HR2.out
    clear hLL
    have hS := tappetref01_Same.calls kS A0 c0 l0 A c (turnN l0 (atP l0 a1) a2 16) s _ (Kd.C_below hr HB2.out) hc RC (by rw [turnN_length]; exact hcA) hsame
    rw [turnN_length] at hS
    refine hS.mono ?_
    rintro e wS ⟨rfl, ⟨nS, rfl⟩⟩
    clear hS RC
    have HR3 := Lib.hid (Kd.R_drewN HR2.out nS)
    have HB3 := Lib.hid (below_drewN HB2.out nS)
    clear HR2 HB2
    generalize hWX : World.drewN w3 nS = WX at *
    clear hWX
    go_wp2_with fail
    refine (octet_Crc.calls kx (some ⟨WX.heap.size, 0, none⟩) 1 [l0] x _ (row_of WX A0 c0 l0 (Kd.C_below hr HB3.out) hc _ _) (by simp) hx).mono ?_
    rintro e w7 ⟨rfl, ⟨nd7, rfl⟩⟩
    have HB4 := Lib.hid (below_drewN (HB3.out.alloc HB3.out.size (.cells #[.slice A0 l0.length c0] 23)) nd7)
    have HR4 := Lib.hid (Kd.R_drewN (Kd.R_alloc HR3.out (.cells #[.slice A0 l0.length c0] 23)) nd7)
    generalize hWY : World.drewN (WX.alloc (.cells #[.slice A0 l0.length c0] 23)) nd7 = WY at *
    clear hWY HR3
    go_wp2_with fail
    obtain ⟨hLL, hcB, RD⟩ := Kd.R_reads' HR4.out
    clear hLL
    have hrow := row_of WY A c (turnN l0 (atP l0 a1) a2 16) RD (by rw [turnN_length]; exact hcB) 23 (0, 0)
    rw [turnN_length] at hrow
    refine (octet_Crc.calls ky (some ⟨WY.heap.size, 0, none⟩) 1 [turnN l0 (atP l0 a1) a2 16] y _ hrow (by simp) hy).mono ?_
    rintro e w8 ⟨rfl, ⟨nd8, rfl⟩⟩
    have HB5 := Lib.hid (below_drewN (HB4.out.alloc HB4.out.size (.cells #[.slice A l0.length c] 23)) nd8)
    generalize hWZ : World.drewN (WY.alloc (.cells #[.slice A l0.length c] 23)) nd8 = WZ at *
    clear hWZ
    go_wp2_with fail
    refine (tappetlaw01_heads.calls true _ rfl).mono ?_
    rintro e w9 ⟨rfl, B9⟩
    have HB6 := Lib.hid (HB5.out.trans (B9.mono HB5.out.size))
    go_wp2_with fail
    go_ret
    exact ⟨rfl, HB6.out⟩
end Go.Proofs.Ytbhlalnpefijkaa.XC
