/- make([]byte, 0, c): a row of bytes with room. -/
import Derived.Test.YtbhlalnpefijkaaProg
import Derived.Test.YtbhlalnpefijkaaWWords
namespace Go.Proofs.Ytbhlalnpefijkaa
open Go.RowKit Go.Proofs.YtbhlalnpefijkaaW.PrintWords

theorem info5_ : (Try.prog.info? 5).map (fun i => (i.zero, i.size, i.bytes)) = some (some (.int .u8 0), 1, 1) := by kernel_rfl
theorem R_make_cap {ops : Array Oper} {rest : List Oper} {o : Oper} {a : Act} {Q : Exit → Act → World → Prop} {w0 W : World} (base : Nat) (hgd : o.guard = none) {N : Tmp} (_hd : o.dst = some N) (x y : Operand) (ho : o.op = .makeSlice 23 x y) (c : Int)
    (hx : a.eval x = .int .i64 0) (hy : a.eval y = .int .i64 c) (h0 : 0 ≤ c) (hc : c.toNat ≤ 281474976710656) (HB : Below base w0 W) (hbase : base ≤ W.heap.size)
    (h : ∀ v1 w1, (Kd.int .u8).R 5 w1 base (fun _ => True) v1 (List.replicate (0 : Int).toNat (0 : Int)) → Below base w0 w1 → W.grownBy w1 none → (∃ b, v1.ownBlock = some b ∧ W.heap.size ≤ b) → wpList Try.prog ops Q rest (a.put o.dst v1) w1) : wpList Try.prog ops Q (o :: rest) a W := by
  obtain ⟨m, rfl⟩ := Int.eq_ofNat_of_zero_le h0
  rw [Int.toNat_natCast] at hc
  obtain ⟨i0, hi, hzz⟩ := Option.map_eq_some_iff.1 info5_
  simp only [Prod.mk.injEq] at hzz
  obtain ⟨hz0, hz1, hz2⟩ := hzz
  obtain ⟨w', hr, h2, h3⟩ := run_make_own (P := Try.prog) W base 23 5 i0 (.int .u8 0) 1 Try.underlying23 hi hz0 hz1 .i64 .i64 m (by rw [hz2]; omega) (by simp only [maxLen]; omega) hbase
  refine Kd.event_run hgd ?_ (h _ w' (Kd.R_of_own (enc := Value.int .u8) h2 (fun _ _ => trivial)) (HB.grown h3 hbase (fun k hk => by cases hk)) h3 ⟨_, rfl, Nat.le_refl _⟩)
  unfold execOp
  simp only [ho, hx, hy, Sem.run_bind, hr, Result.andThen_ok, Sem.run_pure]

end Go.Proofs.Ytbhlalnpefijkaa
