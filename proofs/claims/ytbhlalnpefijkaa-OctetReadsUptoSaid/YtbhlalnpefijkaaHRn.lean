/- octet.Reader: the contract of Number. -/
import Derived.Test.YtbhlalnpefijkaaHRd
import Derived.Laws.Bits64b
import Derived.Laws.Bits64
namespace Go.Proofs.Ytbhlalnpefijkaa
open Go.RowKit Go.Proofs.YtbhlalnpefijkaaW.PrintWords Go.Proofs.YtbhlalnpefijkaaW.PrintLast Go.Proofs.YtbhlalnpefijkaaW.PrintMore

/-- a number's value, the first byte the lowest -/
def leVal : List Int → Int
  | [] => 0
  | x :: l => x + 256 * leVal l

theorem leVal_lt (l : List Int) (h : ∀ x ∈ l, 0 ≤ x ∧ x ≤ 255) : 0 ≤ leVal l ∧ leVal l < 256 ^ l.length := by
  induction l with
  | nil => simp [leVal]
  | cons x l ih =>
    have h1 := h x (List.mem_cons_self)
    have h2 := ih (fun y hy => h y (List.mem_cons_of_mem _ hy))
    simp only [leVal, List.length_cons, Int.pow_succ]
    omega
theorem leVal_snoc (l : List Int) (x : Int) : leVal (l ++ [x]) = leVal l + 256 ^ l.length * x := by
  induction l with
  | nil => simp [leVal]
  | cons y l ih =>
    simp only [List.cons_append, leVal, ih, List.length_cons, Int.pow_succ, Int.mul_add]
    rw [show (256 : Int) ^ l.length * 256 * x = 256 * (256 ^ l.length * x) from by rw [Int.mul_comm ((256 : Int) ^ l.length) 256, Int.mul_assoc]]
    omega
theorem or_nat (k v x : Nat) (hk : k ≤ 7) (hv : v < 256 ^ k) (hx : x ≤ 255) : bits .or .u64 (v : Int) (IntKind.u64.wrap (IntKind.u64.wrap (x : Int) * 2 ^ (8 * k))) = ((v + 256 ^ k * x : Nat) : Int) := by
  have e2 : (2 : Nat) ^ (8 * k) = 256 ^ k := by rw [Nat.pow_mul]
  have hp : (256 : Nat) ^ k ≤ 256 ^ 7 := Nat.pow_le_pow_right (by omega) hk
  have hm : 256 ^ k * x ≤ 256 ^ 7 * 255 := Nat.mul_le_mul hp hx
  have hlt : 256 ^ k * x < 18446744073709551616 := Nat.lt_of_le_of_lt hm (by decide)
  have e1 : IntKind.u64.wrap (x : Int) = (x : Int) := by rw [IntKind.wrap_u64]; omega
  have e3 : (x : Int) * 2 ^ (8 * k) = ((256 ^ k * x : Nat) : Int) := by
    rw [show (2 : Int) ^ (8 * k) = ((2 ^ (8 * k) : Nat) : Int) from (Int.natCast_pow 2 (8 * k)).symm, e2, Int.natCast_mul, Int.mul_comm]
  rw [e1, e3]
  generalize hP : 256 ^ k * x = P at *
  have e4 : IntKind.u64.wrap (P : Int) = (P : Int) := by rw [IntKind.wrap_u64]; omega
  rw [e4, bits_or_u64_nat v P (by omega) (by omega), ← hP, ← e2]
  rw [← e2] at hv
  rw [Nat.or_comm, ← Nat.two_pow_add_eq_or_of_lt hv, Nat.add_comm]
theorem or_next (k : Nat) (v x : Int) (hk : k ≤ 7) (h0 : 0 ≤ v) (hv : v < 256 ^ k) (hx0 : 0 ≤ x) (hx : x ≤ 255) : bits .or .u64 v (IntKind.u64.wrap (IntKind.u64.wrap x * 2 ^ (8 * k))) = v + 256 ^ k * x := by
  obtain ⟨v, rfl⟩ := Int.eq_ofNat_of_zero_le h0
  obtain ⟨x, rfl⟩ := Int.eq_ofNat_of_zero_le hx0
  have hc : ((256 ^ k : Nat) : Int) = 256 ^ k := Int.natCast_pow 256 k
  rw [or_nat k v x hk (by omega) (by omega), Int.natCast_add, Int.natCast_mul, hc]
theorem leVal_next (bs : List Int) (n k : Nat) (hn : n ≤ 8) (hk : k < n) (hs : n ≤ bs.length) (hb : ∀ x ∈ bs, 0 ≤ x ∧ x ≤ 255) :
    bits .or .u64 (leVal ((bs.take n).take k)) (IntKind.u64.wrap (IntKind.u64.wrap (bs[k]'(by omega)) * 2 ^ (8 * k))) = leVal ((bs.take n).take (k + 1)) := by
  have hl : ((bs.take n).take k).length = k := by rw [List.length_take, List.length_take]; omega
  have hv := leVal_lt ((bs.take n).take k) (fun x hx => hb x (List.mem_of_mem_take (List.mem_of_mem_take hx)))
  have hx := hb (bs[k]'(by omega)) (List.getElem_mem _)
  rw [hl] at hv
  rw [or_next k _ _ (by omega) hv.1 hv.2 hx.1 hx.2]
  have : (bs.take n).take (k + 1) = (bs.take n).take k ++ [bs[k]'(by omega)] := by
    rw [List.take_succ_eq_append_getElem (by rw [List.length_take]; omega)]
    simp
  rw [this, leVal_snoc, hl]
set_option maxRecDepth 1000000 in
set_option maxHeartbeats 1000000 in
theorem number_arg (B base : Nat) (bs : List Int) (n : Int) (w : World) (h : RdSt w base B bs) (hn : n < 1 ∨ 8 < n) :
    Calls Try.prog 25 #[.pointer (some ⟨B, 0, none⟩), .int .i64 n] w fun e w' => e = .returned (.tuple #[.int .u64 0, .int .i64 2]) ∧ w = w' := by
  obtain ⟨A, c, h0, h1, _, _, h3, h4, _⟩ := h.cells
  rcases hn with hn | hn
  · have d1 : decide (n < 1) = true := decide_eq_true hn
    go_enter Try.func25, Try.ntmps25
    go_wp2
    go_ret2
    exact ⟨rfl, rfl⟩
  · have d1 : decide (n < 1) = false := decide_eq_false (by omega)
    have d2 : decide (8 < n) = true := decide_eq_true hn
    go_enter Try.func25, Try.ntmps25
    go_wp2
    go_ret2
    exact ⟨rfl, rfl⟩
set_option maxRecDepth 1000000 in
set_option maxHeartbeats 1000000 in
theorem number_short (B base : Nat) (bs : List Int) (n : Int) (w : World) (h : RdSt w base B bs) (hn : 1 ≤ n ∧ n ≤ 8) (hs : (bs.length : Int) < n) :
    Calls Try.prog 25 #[.pointer (some ⟨B, 0, none⟩), .int .i64 n] w fun e w' => e = .returned (.tuple #[.int .u64 0, .int .i64 10]) ∧ w = w' := by
  obtain ⟨A, c, h0, h1, _, _, h3, h4, _⟩ := h.cells
  have d1 : decide (n < 1) = false := decide_eq_false (by omega)
  have d2 : decide (8 < n) = false := decide_eq_false (by omega)
  go_enter Try.func25, Try.ntmps25
  go_wp2_with (go_at_call 47; refine (cut_short B base bs n _ h hs).mono ?_; rintro e w' ⟨rfl, rfl⟩)
  go_loop [8, 35] (fun v i => v = .int .u64 0 ∧ i = .int .i64 0) (fun _ _ => 0)
  case atStart => exact ⟨rfl, rfl⟩
  case round =>
    obtain ⟨rfl, rfl⟩ := hrel
    go_wp2
    go_ret2
    exact ⟨rfl, rfl⟩
theorem rd_cells {w1 : World} {base : Nat} {v : Value} {l : List Int} (hR : (Kd.int .u8).R 5 w1 base (fun _ => True) v l) (h : 1 ≤ l.length) :
    ∃ ad c1, v = .slice (some ad) l.length c1 ∧ ∀ j, j < l.length → w1.cell? (ad.add j) = some (.int .u8 (l.getD j 0)) := by
  obtain ⟨A1, c1, hv, hc1, hC⟩ := Kd.R_reads hR
  obtain ⟨ad, rfl, hc⟩ := (Kd.reads_of_C (d := (0 : Int)) hC).2.2 (by omega)
  exact ⟨ad, c1, hv, hc⟩
set_option maxRecDepth 1000000 in
set_option maxHeartbeats 1000000 in
theorem number_yes (B base : Nat) (bs : List Int) (n : Nat) (w : World) (h : RdSt w base B bs) (hn : 1 ≤ n ∧ n ≤ 8) (hs : n ≤ bs.length) (hb : ∀ x ∈ bs, 0 ≤ x ∧ x ≤ 255) :
    Calls Try.prog 25 #[.pointer (some ⟨B, 0, none⟩), .int .i64 n] w fun e w' => e = .returned (.tuple #[.int .u64 (leVal (bs.take n)), .int .i64 0]) ∧ RdSt w' base B (bs.drop n) ∧ RdOnly w w' B := by
  obtain ⟨A, c, h0, h1, _, _, h3, h4, _⟩ := h.cells
  have hlt : (bs.take n).length = n := by rw [List.length_take]; omega
  have d1 : decide ((n : Int) < 1) = false := decide_eq_false (by omega)
  have d2 : decide (8 < (n : Int)) = false := decide_eq_false (by omega)
  have Hb := Lib.hid hb
  clear hb
  go_enter Try.func25, Try.ntmps25
  go_wp2_with (go_at_call 47; refine (cut_yes B base bs n _ h hs).mono ?_; rintro e w1 ⟨v, rfl, hR, hS, hO⟩; obtain ⟨ad, c1, hv, hC⟩ := rd_cells hR (by omega); subst hv; have HS := Lib.hid hS; have HO := Lib.hid hO; have HC := Lib.hid hC; clear hR hS hO hC h0 h1 h d1 d2)
  go_loop [8, 35] (fun v i => ∃ k : Nat, k ≤ (bs.take n).length ∧ v = .int .u64 (leVal ((bs.take n).take k)) ∧ i = .int .i64 k) (fun _ i => (bs.take n).length - (intOf i).toNat)
  case atStart => exact ⟨0, by omega, rfl, rfl⟩
  case round =>
    obtain ⟨k, hk, rfl, rfl⟩ := hrel
    by_cases hlt2 : k < (bs.take n).length
    · have hcell := HC.out k hlt2
      have HN := Lib.hid (leVal_next bs n k hn.2 (by omega) hs Hb.out)
      go_wp2
      go_round
      case rel => exact ⟨k + 1, by omega, by rw [HN.out], by go_num⟩
      case measure => simp [intOf]; omega
    · have hfin : Hid ((bs.take n).take k = bs.take n) := Lib.hid (List.take_of_length_le (by omega))
      go_wp2
      go_ret2
      exact ⟨by rw [hfin.out]; rfl, HS.out, HO.out⟩

end Go.Proofs.Ytbhlalnpefijkaa
