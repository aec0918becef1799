/- Rows that a literal makes, as they are read. -/
import Derived.Test.YtbhlalnpefijkaaHRn
import Derived.Lib.SlBytesConst
namespace Go.Proofs.Ytbhlalnpefijkaa
open Go.RowKit Go.Proofs.YtbhlalnpefijkaaW.PrintWords Go.Proofs.YtbhlalnpefijkaaW.PrintLast Go.Proofs.YtbhlalnpefijkaaW.PrintMore

/-- a row that a literal made -/
theorem rowLit (w : World) (l : List Int) (h : l.length ≤ 9223372036854775807) (fr : Nat × Nat := (0, 0)) : (Kd.int .u8).C (w.alloc (.cells (l.map (Value.int .u8)).toArray 5 fr)) (some ⟨w.heap.size, 0, none⟩) l.length l := by
  refine Kd.C_of_reads (d := (0 : Int)) ⟨rfl, h, fun hp => ⟨_, rfl, fun j hj => ?_⟩⟩
  rw [show (Addr.add ⟨w.heap.size, 0, none⟩ j) = ⟨w.heap.size, j, none⟩ from by unfold Addr.add; split <;> simp_all, World.cell?_alloc_mark]
  simp [List.getD_eq_getElem?_getD, hj]
/-- one byte more in a row of the call's own: the source -/
theorem one_src (w : World) (x : Int) : (Kd.int .u8).C (w.alloc (.cells #[.int .u8 x] 5)) (some ⟨w.heap.size, 0, none⟩) 1 [x] := rowLit w [x] (by simp)

end Go.Proofs.Ytbhlalnpefijkaa
