/- octet.Decimal: the contract of the Go function. -/
import Derived.Test.YtbhlalnpefijkaaHNum
import Derived.Test.YtbhlalnpefijkaaWWords
namespace Go.Proofs.Ytbhlalnpefijkaa
open Go.RowKit Go.Proofs.YtbhlalnpefijkaaW.PrintWords

/-- the digits of a number, at most d of them -/
def decI : Nat → Nat → List Int
  | 0, _ => []
  | d + 1, n => if n < 10 then [48 + (n : Int)] else decI d (n / 10) ++ [48 + ((n % 10 : Nat) : Int)]
/-- the twenty cells, the last of them written -/
def decCells (q : Nat) (ds : List Int) : Array Value := (List.replicate q (Value.int .u8 0) ++ ds.map (Value.int .u8)).toArray

theorem decCells_size (q : Nat) (ds : List Int) (h : q + ds.length = 20) : (decCells q ds).size = 20 := by
  unfold decCells; simp; omega
theorem decCells_at (q : Nat) (ds : List Int) : (decCells (q + 1) ds)[q]? = some (.int .u8 0) := by
  unfold decCells
  simp [List.getElem?_append]
theorem decCells_set (q : Nat) (ds : List Int) (x : Int) : (decCells (q + 1) ds).setIfInBounds q (.int .u8 x) = decCells q (x :: ds) := by
  apply Array.ext'
  unfold decCells
  rw [Array.toList_setIfInBounds]
  simp only [List.map_cons]
  rw [show List.replicate (q + 1) (Value.int .u8 0) = List.replicate q (Value.int .u8 0) ++ [Value.int .u8 0] from by rw [List.replicate_succ']]
  rw [List.append_assoc, List.set_append_right _ _ (by simp)]
  simp
theorem decCells_get (q : Nat) (ds : List Int) (j : Nat) (h : j < ds.length) : (decCells q ds)[q + j]? = some (.int .u8 (ds.getD j 0)) := by
  unfold decCells
  simp [h]
theorem decI_more (q n : Nat) (h : ¬ n < 10) (h' : n < 10 ^ (q + 1)) : decI (q + 1) n = decI q (n / 10) ++ [48 + ((n % 10 : Nat) : Int)] ∧ n / 10 < 10 ^ q ∧ 1 ≤ q := by
  refine ⟨by rw [decI, if_neg h], ?_, ?_⟩
  · rw [Nat.pow_succ] at h'; omega
  · rcases q with _ | q
    · simp at h'; omega
    · omega
theorem decI_last (q n : Nat) (h : n < 10) : decI (q + 1) n = [48 + ((n % 10 : Nat) : Int)] := by rw [decI, if_pos h, Nat.mod_eq_of_lt h]

theorem slice_tail (b q : Nat) (h : q < 20) (W : World) : (Instr.sliceAt 87 (.pointer (some ⟨b, 0, none⟩)) (some (.int .i64 q)) none none).run Try.prog W = .ok (.slice (some ⟨b, q, none⟩) (20 - q) (20 - q)) W := by
  have hl : Try.prog.arrayLen 87 = 20 := by kernel_rfl
  have he : (sizeOf (Try.prog.elem 87)).run Try.prog W = .ok 1 W := by kernel_rfl
  rw [run_sliceAt_array_l W 87 ⟨b, 0, none⟩ (by kernel_rfl) .i64 q (by omega) (by rw [hl]; omega), he, hl]
  simp only [Result.andThen, slicedAt, Int.toNat_natCast]
  rw [if_neg (by omega)]
  by_cases e : q = 0
  · subst e; rfl
  · simp [Addr.add, e]
theorem tail_string (w : World) (q : Nat) (ds : List Int) (h : q + ds.length = 20) :
    (convert 23 9 (.slice (some ⟨w.heap.size, q, none⟩) (20 - q) (20 - q))).run Try.prog (w.alloc (.cells (decCells q ds) 87)) = .ok (.string (strOfNums ds)) (w.alloc (.cells (decCells q ds) 87)) := by
  refine string_of_reads (e := 5) (by kernel_rfl) (by kernel_rfl) (by kernel_rfl) ⟨by omega, by omega, fun _ => ⟨_, rfl, fun j hj => ?_⟩⟩
  rw [show (Addr.add ⟨w.heap.size, q, none⟩ j) = ⟨w.heap.size, q + j, none⟩ from by simp [Addr.add], World.cell?_alloc_new]
  exact decCells_get q ds j (by omega)

set_option maxRecDepth 1000000 in
set_option maxHeartbeats 1000000 in
theorem decimal_walk (V : Nat) (w : World) (hV : V < 10 ^ 20) (hV' : V ≤ 18446744073709551615) :
    Calls Try.prog 41 #[.int .u64 V] w fun e w' => e = .returned (.string (strOfNums (decI 20 V))) ∧ Below w.heap.size w w' := by
  have HV := Lib.hid hV
  clear hV
  go_enter Try.func41, Try.ntmps41
  go_wp2
  go_loopw [0, 4] (fun a i w' => ∃ (v q : Nat) (ds : List Int), a = .int .u64 v ∧ i = .int .i64 ((q + 1 : Nat) : Int) ∧ w' = w.alloc (.cells (decCells (q + 1) ds) 87) ∧ q + 1 + ds.length = 20 ∧ v ≤ 18446744073709551615 ∧ Hid (v < 10 ^ (q + 1) ∧ decI (q + 1) v ++ ds = decI 20 V)) (fun _ i _ => (intOf i).toNat)
  case atStart => exact ⟨V, 19, [], rfl, rfl, rfl, rfl, hV', Lib.hid ⟨HV.out, List.append_nil _⟩⟩
  case round =>
    obtain ⟨v, q, ds, rfl, rfl, rfl, hq, hv, hH⟩ := hrel
    have hat := decCells_at q ds
    have hset := decCells_set q ds
    have hsz := decCells_size (q + 1) ds hq
    by_cases hlt : v < 10
    · have hne : ((v : Int) / 10 == 0) = true := beq_iff_eq.2 (by omega)
      have hfin : Hid (decI 20 V = (48 + (v : Int) % 10) :: ds) := Lib.hid (by rw [← hH.out.2, decI_last q v hlt]; simp)
      have hge := decCells_get q ((48 + (v : Int) % 10) :: ds)
      have hsl := fun W => slice_tail w.heap.size q (by omega) W
      have hcv := tail_string w q ((48 + (v : Int) % 10) :: ds) (by simp; omega)
      clear hge
      go_wp2
      go_ret
      exact ⟨by rw [hfin.out]; rfl, (Below.refl _ _).alloc (Nat.le_refl _) _⟩
    · obtain ⟨e1, e2, e3⟩ := decI_more q v hlt hH.out.1
      obtain ⟨p, rfl⟩ : ∃ p, q = p + 1 := ⟨q - 1, by omega⟩
      have E1 := Lib.hid e1
      have E2 := Lib.hid e2
      clear e1 e2 e3
      have hne : ((v : Int) / 10 == 0) = false := beq_eq_false_iff_ne.2 (by omega)
      go_wp2
      go_roundw
      case rel =>
        refine ⟨v / 10, p, (48 + (v : Int) % 10) :: ds, by simp, rfl, rfl, by simp; omega, by omega, Lib.hid ⟨E2.out, ?_⟩⟩
        have := hH.out.2
        rw [E1.out] at this
        rw [← this]
        simp
      case measure => simp [intOf]; omega

/-- what octet.Decimal answers -/
def decimalP (v : Int) : ByteArray := strOfNums (decI 20 v.toNat)
theorem decimal_calls (v : Int) (w : World) (h0 : 0 ≤ v) (h1 : v ≤ 18446744073709551615) :
    Calls Try.prog 41 #[.int .u64 v] w fun e w' => e = .returned (.string (decimalP v)) ∧ Below w.heap.size w w' := by
  obtain ⟨n, rfl⟩ := Int.eq_ofNat_of_zero_le h0
  exact decimal_walk n w (by omega) (by omega)

end Go.Proofs.Ytbhlalnpefijkaa
