/- slices.Equal, at whole numbers and at rows. -/
import Derived.Test.YtbgcemijihpakaaG08
import Derived.Test.YtbgcemijihpakaaG09
import Derived.Test.YtbgcemijihpakaaG10
namespace Go.Proofs.Ytbgcemijihpakaa.XA
set_option linter.unusedVariables false
set_option linter.unusedSimpArgs false
open Go.RowKit Go.WideMaps Go.Maps Go.Proofs.YtbgcemijihpakaaW.PrintWords Go.Proofs.YtbgcemijihpakaaW.PrintLast Go.Proofs.YtbgcemijihpakaaW.PrintMore
/-- are two lists alike, place by place? -/
def eqL {α : Type} (f : α → α → Bool) : List α → List α → Bool
 | [], [] => true
 | x :: xs, y :: ys => f x y && eqL f xs ys
 | _, _ => false
theorem eqL_drop {α : Type} (f : α → α → Bool) (d : α) : ∀ (xs ys : List α) (k : Nat), k < xs.length → k < ys.length → eqL f (xs.drop k) (ys.drop k) = (f (xs.getD k d) (ys.getD k d) && eqL f (xs.drop (k + 1)) (ys.drop (k + 1)))
 | x :: xs, y :: ys, 0, _, _ => rfl
 | x :: xs, y :: ys, k + 1, h, h2 => by
  simp only [List.length_cons] at h h2
  simpa using eqL_drop f d xs ys k (by omega) (by omega)
theorem eqL_len {α : Type} (f : α → α → Bool) : ∀ (xs ys : List α), xs.length ≠ ys.length → eqL f xs ys = false
 | [], [], h => absurd rfl h
 | [], _ :: _, _ => rfl
 | _ :: _, [], _ => rfl
 | x :: xs, y :: ys, h => by
  simp only [List.length_cons] at h
  simp only [eqL, eqL_len f xs ys (by omega), Bool.and_false]

def eq88 (x y : S88) : Bool := (x.f0 == y.f0) && ((x.f1 == y.f1))
theorem neq88 (w : World) (x y : S88) : (binOp .neq 88 (.agg #[.int .i64 x.f0, .int .i64 x.f1]) (.agg #[.int .i64 y.f0, .int .i64 y.f1])).run Try.prog w = .ok (.bool (!eq88 x y)) w := by
 rw [run_neq_struct, eqA88 9998 w]
 rfl
theorem run_neq88 {o : Oper} {a : Act} (w : World) (s u : S88) (x y : Operand) (ho : o.op = .binOp .neq 88 x y 88) (hx : a.eval x = .agg #[.int .i64 s.f0, .int .i64 s.f1]) (hy : a.eval y = .agg #[.int .i64 u.f0, .int .i64 u.f1]) : (execOp a.eval o).run Try.prog w = .ok (.value (.bool (!eq88 s u))) w := by
 have hg := run_eqGuard_agg (P := Try.prog) (w := w) .neq 88 x y #[.int .i64 s.f0, .int .i64 s.f1] #[.int .i64 u.f0, .int .i64 u.f1] (by kernel_rfl)
 have hn := neq88 w s u
 simp only [execOp, ho, hx, hy]
 simp [hg, hn, Result.andThen]
def eq66 (x y : S66) : Bool := (x.f0 == y.f0) && ((x.f1 == y.f1))
theorem neq66 (w : World) (x y : S66) : (binOp .neq 66 (.agg #[.bool x.f0, .int .i64 x.f1]) (.agg #[.bool y.f0, .int .i64 y.f1])).run Try.prog w = .ok (.bool (!eq66 x y)) w := by
 rw [run_neq_struct, eqA66 9998 w]
 rfl
theorem run_neq66 {o : Oper} {a : Act} (w : World) (s u : S66) (x y : Operand) (ho : o.op = .binOp .neq 66 x y 66) (hx : a.eval x = .agg #[.bool s.f0, .int .i64 s.f1]) (hy : a.eval y = .agg #[.bool u.f0, .int .i64 u.f1]) : (execOp a.eval o).run Try.prog w = .ok (.value (.bool (!eq66 s u))) w := by
 have hg := run_eqGuard_agg (P := Try.prog) (w := w) .neq 66 x y #[.bool s.f0, .int .i64 s.f1] #[.bool u.f0, .int .i64 u.f1] (by kernel_rfl)
 have hn := neq66 w s u
 simp only [execOp, ho, hx, hy]
 simp [hg, hn, Result.andThen]
def eq95 (x y : S95) : Bool := (x.f0 == y.f0) && ((x.f1 == y.f1) && ((x.f2 == y.f2)))
theorem neq95 (w : World) (x y : S95) : (binOp .neq 95 (.agg #[.int .u32 x.f0, .int .u32 x.f1, .int .u32 x.f2]) (.agg #[.int .u32 y.f0, .int .u32 y.f1, .int .u32 y.f2])).run Try.prog w = .ok (.bool (!eq95 x y)) w := by
 rw [run_neq_struct, eqA95 9998 w]
 rfl
theorem run_neq95 {o : Oper} {a : Act} (w : World) (s u : S95) (x y : Operand) (ho : o.op = .binOp .neq 95 x y 95) (hx : a.eval x = .agg #[.int .u32 s.f0, .int .u32 s.f1, .int .u32 s.f2]) (hy : a.eval y = .agg #[.int .u32 u.f0, .int .u32 u.f1, .int .u32 u.f2]) : (execOp a.eval o).run Try.prog w = .ok (.value (.bool (!eq95 s u))) w := by
 have hg := run_eqGuard_agg (P := Try.prog) (w := w) .neq 95 x y #[.int .u32 s.f0, .int .u32 s.f1, .int .u32 s.f2] #[.int .u32 u.f0, .int .u32 u.f1, .int .u32 u.f2] (by kernel_rfl)
 have hn := neq95 w s u
 simp only [execOp, ho, hx, hy]
 simp [hg, hn, Result.andThen]
def eq102 (x y : S102) : Bool := (x.f0 == y.f0) && (((x.f1.f0 == y.f1.f0) && ((x.f1.f1 == y.f1.f1) && ((x.f1.f2 == y.f1.f2)))) && ((x.f2 == y.f2) && ((x.f3 == y.f3) && ((x.f4 == y.f4)))))
theorem neq102 (w : World) (x y : S102) : (binOp .neq 102 (.agg #[.int .i64 x.f0, .int .i64 x.f1.f0, .int .i64 x.f1.f1, .int .u32 x.f1.f2, .int .u32 x.f2, .int .u32 x.f3, .int .u32 x.f4]) (.agg #[.int .i64 y.f0, .int .i64 y.f1.f0, .int .i64 y.f1.f1, .int .u32 y.f1.f2, .int .u32 y.f2, .int .u32 y.f3, .int .u32 y.f4])).run Try.prog w = .ok (.bool (!eq102 x y)) w := by
 rw [run_neq_struct, eqA102 9997 w]
 rfl
theorem run_neq102 {o : Oper} {a : Act} (w : World) (s u : S102) (x y : Operand) (ho : o.op = .binOp .neq 102 x y 102) (hx : a.eval x = .agg #[.int .i64 s.f0, .int .i64 s.f1.f0, .int .i64 s.f1.f1, .int .u32 s.f1.f2, .int .u32 s.f2, .int .u32 s.f3, .int .u32 s.f4]) (hy : a.eval y = .agg #[.int .i64 u.f0, .int .i64 u.f1.f0, .int .i64 u.f1.f1, .int .u32 u.f1.f2, .int .u32 u.f2, .int .u32 u.f3, .int .u32 u.f4]) : (execOp a.eval o).run Try.prog w = .ok (.value (.bool (!eq102 s u))) w := by
 have hg := run_eqGuard_agg (P := Try.prog) (w := w) .neq 102 x y #[.int .i64 s.f0, .int .i64 s.f1.f0, .int .i64 s.f1.f1, .int .u32 s.f1.f2, .int .u32 s.f2, .int .u32 s.f3, .int .u32 s.f4] #[.int .i64 u.f0, .int .i64 u.f1.f0, .int .i64 u.f1.f1, .int .u32 u.f1.f2, .int .u32 u.f2, .int .u32 u.f3, .int .u32 u.f4] (by kernel_rfl)
 have hn := neq102 w s u
 simp only [execOp, ho, hx, hy]
 simp [hg, hn, Result.andThen]
def eq113 (x y : S113) : Bool := (x.f0 == y.f0) && ((x.f1 == y.f1) && ((x.f2 == y.f2) && ((x.f3 == y.f3) && ((x.f4 == y.f4) && (((x.f5.f0 == y.f5.f0) && ((x.f5.f1 == y.f5.f1) && ((x.f5.f2 == y.f5.f2)))))))))
theorem neq113 (w : World) (x y : S113) : (binOp .neq 113 (.agg #[.int .i64 x.f0, .int .i64 x.f1, .int .i64 x.f2, .int .u64 x.f3, .int .i64 x.f4, .int .i64 x.f5.f0, .int .i64 x.f5.f1, .int .u32 x.f5.f2]) (.agg #[.int .i64 y.f0, .int .i64 y.f1, .int .i64 y.f2, .int .u64 y.f3, .int .i64 y.f4, .int .i64 y.f5.f0, .int .i64 y.f5.f1, .int .u32 y.f5.f2])).run Try.prog w = .ok (.bool (!eq113 x y)) w := by
 rw [run_neq_struct, eqA113 9997 w]
 rfl
theorem run_neq113 {o : Oper} {a : Act} (w : World) (s u : S113) (x y : Operand) (ho : o.op = .binOp .neq 113 x y 113) (hx : a.eval x = .agg #[.int .i64 s.f0, .int .i64 s.f1, .int .i64 s.f2, .int .u64 s.f3, .int .i64 s.f4, .int .i64 s.f5.f0, .int .i64 s.f5.f1, .int .u32 s.f5.f2]) (hy : a.eval y = .agg #[.int .i64 u.f0, .int .i64 u.f1, .int .i64 u.f2, .int .u64 u.f3, .int .i64 u.f4, .int .i64 u.f5.f0, .int .i64 u.f5.f1, .int .u32 u.f5.f2]) : (execOp a.eval o).run Try.prog w = .ok (.value (.bool (!eq113 s u))) w := by
 have hg := run_eqGuard_agg (P := Try.prog) (w := w) .neq 113 x y #[.int .i64 s.f0, .int .i64 s.f1, .int .i64 s.f2, .int .u64 s.f3, .int .i64 s.f4, .int .i64 s.f5.f0, .int .i64 s.f5.f1, .int .u32 s.f5.f2] #[.int .i64 u.f0, .int .i64 u.f1, .int .i64 u.f2, .int .u64 u.f3, .int .i64 u.f4, .int .i64 u.f5.f0, .int .i64 u.f5.f1, .int .u32 u.f5.f2] (by kernel_rfl)
 have hn := neq113 w s u
 simp only [execOp, ho, hx, hy]
 simp [hg, hn, Result.andThen]
def eqI (x y : Int) : Bool := x == y
set_option maxRecDepth 1000000 in
set_option maxHeartbeats 4000000 in
theorem eqInt_calls (A A2 : Option Addr) (c c2 : Nat) (xs ys : List Int) (w : World) (hx : (Kd.int .i64).C w A xs.length xs) (hy : (Kd.int .i64).C w A2 ys.length ys) (hc : xs.length ≤ c) (hc2 : ys.length ≤ c2) :
  Calls Try.prog 58 #[.slice A xs.length c, .slice A2 ys.length c2] w fun e w' => e = .returned (.bool (eqL eqI xs ys)) ∧ Below w.heap.size w w' := by
 have HX := Aside0.mk hx
 have HY := Aside0.mk hy
 have hlx := hx.2.1
 have hlz := hy.2.1
 have HB := Aside0.mk (Below.refl w.heap.size w)
 clear hx hy
 by_cases hl : xs.length = ys.length
 ·have hlb : ((xs.length : Int) != (ys.length : Int)) = false := by rw [bne_eq_false_iff_eq, hl]
  have HL := Aside0.mk hl
  clear hl
  go_enter Try.func58, Try.ntmps58
  go_wp2_with fail
  go_loopg [13] xs.length (fun g i wr => ∃ k : Nat, k ≤ xs.length ∧ g = xs.length - k ∧ i = .int .i64 k ∧ Aside0 (eqL eqI xs ys = eqL eqI (xs.drop k) (ys.drop k)) ∧ Aside0 (Below w.heap.size w wr))
  case atStart => exact ⟨0, by omega, rfl, rfl, ⟨rfl⟩, HB⟩
  case round =>
  clear HB
  obtain ⟨k, hk, rfl, rfl, HS, HB⟩ := hrel
  by_cases hlt : k < xs.length
  ·have hd : decide ((k : Int) < (xs.length : Int)) = true := decide_eq_true (by omega)
   have hly : k < ys.length := by have := HL.out; omega
   have HLT := Aside0.mk hlt
   replace HS := Aside0.mk (HS.out.trans (eqL_drop eqI 0 xs ys k hlt hly))
   obtain ⟨ad, rfl, hx0⟩ := (Kd.reads_of_C (d := (0 : Int)) (Kd.C_below HX.out HB.out)).2.2 (by omega)
   obtain ⟨ad2, rfl, hy0⟩ := (Kd.reads_of_C (d := (0 : Int)) (Kd.C_below HY.out HB.out)).2.2 (by omega)
   have gx := hx0 k hlt
   have gy := hy0 k hly
   clear hx0 hy0
   generalize xs.getD k 0 = x at *
   generalize ys.getD k 0 = y at *
   have HBR := Aside0.mk HB.out
   go_upto_region 6 with fail
   have gx' : ∀ w_ : World, Below wr.heap.size wr w_ → w_.cell? (ad.add k) = some (.int .i64 x) := fun w_ s => (s.cell (World.block_lt_of_cell? wr _ gx)).trans gx
   have gy' : ∀ w_ : World, Below wr.heap.size wr w_ → w_.cell? (ad2.add k) = some (.int .i64 y) := fun w_ s => (s.cell (World.block_lt_of_cell? wr _ gy)).trans gy
   have GX := Aside0.mk gx'
   have GY := Aside0.mk gy'
   clear gx gy gx' gy'
   refine start_ (n := 9) (S := fun w_ => Below wr.heap.size wr w_) (ds := []) #[false, false, false, false, false, false, false, false, false] (by kernel_rfl) rfl rfl (drew_below wr) (fun hHeld => ?_)
   have HH := Aside0.mk hHeld
   clear hHeld
   generalize wr.drew = wv at HH ⊢
   refine pure_ (i := 0) (N := some 16) (v := ?_) (a' := ?_) #[true, false, false, false, false, false, false, false, false] rfl rfl (by kernel_rfl) (fun _ _ _ h => h) (Or.inl ⟨by rfl, ?_⟩) ?_ ?_
   rotate_left
   ·intro w_
    go_simp
    with_reducible rfl
   rotate_left
   ·simp only [Act.put, List.setIfInBounds_toArray, List.set_cons_zero, List.set_cons_succ, i64_w, i32_w]
    rfl
   refine pure_ (i := 1) (N := some 17) (v := ?_) (a' := ?_) #[true, true, false, false, false, false, false, false, false] rfl rfl (by kernel_rfl) (fun _ _ _ h => h) (Or.inl ⟨by rfl, ?_⟩) ?_ ?_
   rotate_left
   ·intro w_
    go_simp
    with_reducible rfl
   rotate_left
   ·simp only [Act.put, List.setIfInBounds_toArray, List.set_cons_zero, List.set_cons_succ, i64_w, i32_w]
    rfl
   refine pure_ (i := 2) (N := some 18) (v := ?_) (a' := ?_) #[true, true, true, false, false, false, false, false, false] rfl rfl (by kernel_rfl) (fun _ _ _ h => h) (Or.inl ⟨by rfl, ?_⟩) ?_ ?_
   rotate_left
   ·intro w_
    go_simp
    with_reducible rfl
   rotate_left
   ·simp only [Act.put, List.setIfInBounds_toArray, List.set_cons_zero, List.set_cons_succ, i64_w, i32_w]
    rfl
   refine take_ (i := 3) (N := some 19) (v := ?_) (a' := ?_) #[true, true, true, true, false, false, false, false, false] rfl rfl (by kernel_rfl) (fun _ _ _ h => h) (Or.inl ⟨by rfl, ?_⟩) HH.out ?_ ?_
   rotate_left
   ·rintro w_ s
    have hgx := GX.out w_ s; have hgy := GY.out w_ s
    go_simp
    with_reducible rfl
   rotate_left
   ·simp only [Act.put, List.setIfInBounds_toArray, List.set_cons_zero, List.set_cons_succ, i64_w, i32_w]
    rfl
   refine pure_ (i := 4) (N := some 20) (v := ?_) (a' := ?_) #[true, true, true, true, true, false, false, false, false] rfl rfl (by kernel_rfl) (fun _ _ _ h => h) (Or.inl ⟨by rfl, ?_⟩) ?_ ?_
   rotate_left
   ·intro w_
    go_simp
    with_reducible rfl
   rotate_left
   ·simp only [Act.put, List.setIfInBounds_toArray, List.set_cons_zero, List.set_cons_succ, i64_w, i32_w]
    rfl
   refine pure_ (i := 5) (N := some 21) (v := ?_) (a' := ?_) #[true, true, true, true, true, true, false, false, false] rfl rfl (by kernel_rfl) (fun _ _ _ h => h) (Or.inl ⟨by rfl, ?_⟩) ?_ ?_
   rotate_left
   ·intro w_
    go_simp
    with_reducible rfl
   rotate_left
   ·simp only [Act.put, List.setIfInBounds_toArray, List.set_cons_zero, List.set_cons_succ, i64_w, i32_w]
    rfl
   refine pure_ (i := 6) (N := some 22) (v := ?_) (a' := ?_) #[true, true, true, true, true, true, true, false, false] rfl rfl (by kernel_rfl) (fun _ _ _ h => h) (Or.inl ⟨by rfl, ?_⟩) ?_ ?_
   rotate_left
   ·intro w_
    go_simp
    with_reducible rfl
   rotate_left
   ·simp only [Act.put, List.setIfInBounds_toArray, List.set_cons_zero, List.set_cons_succ, i64_w, i32_w]
    rfl
   refine take_ (i := 7) (N := some 23) (v := ?_) (a' := ?_) #[true, true, true, true, true, true, true, true, false] rfl rfl (by kernel_rfl) (fun _ _ _ h => h) (Or.inl ⟨by rfl, ?_⟩) HH.out ?_ ?_
   rotate_left
   ·rintro w_ s
    have hgx := GX.out w_ s; have hgy := GY.out w_ s
    go_simp
    with_reducible rfl
   rotate_left
   ·simp only [Act.put, List.setIfInBounds_toArray, List.set_cons_zero, List.set_cons_succ, i64_w, i32_w]
    rfl
   refine pure_ (i := 8) (N := some 24) (v := ?_) (a' := ?_) #[true, true, true, true, true, true, true, true, true] rfl rfl (by kernel_rfl) (fun _ _ _ h => h) (Or.inl ⟨by rfl, ?_⟩) ?_ ?_
   rotate_left
   ·intro w_
    go_simp
    with_reducible rfl
   rotate_left
   ·simp only [Act.put, List.setIfInBounds_toArray, List.set_cons_zero, List.set_cons_succ, i64_w, i32_w]
    rfl
   refine done_ (by kernel_rfl) ?_
   have HB2 := Aside0.mk (HB.out.trans (HH.out.mono HB.out.size))
   rcases he : (x == y) with _ | _
   ·have HK := Aside0.mk (show eqL eqI xs ys = false from by rw [HS.out, show eqI x y = false from he, Bool.false_and])
    have hq : (x != y) = true := by rw [bne_iff_ne]; exact beq_eq_false_iff_ne.mp he
    clear he HS HH
    go_wp2_with fail
    go_ret
    exact ⟨ret_b HK.out, HB2.out⟩
   ·have HK := Aside0.mk (show eqL eqI xs ys = eqL eqI (xs.drop (k + 1)) (ys.drop (k + 1)) from by rw [HS.out, show eqI x y = true from he, Bool.true_and])
    have hq : (x != y) = false := by rw [bne_eq_false_iff_eq]; exact beq_iff_eq.mp he
    clear he HS HH
    go_wp2_with fail
    go_roundg (xs.length - (k + 1))
    case measure => have := HLT.out; omega
    case rel => exact ⟨k + 1, HLT.out, rfl, by go_num, HK, HB2⟩
  ·have hd : decide ((k : Int) < (xs.length : Int)) = false := decide_eq_false (by omega)
   have HK := Aside0.mk (show eqL eqI xs ys = true from by rw [HS.out, List.drop_of_length_le (by omega), List.drop_of_length_le (by have := HL.out; omega)]; rfl)
   clear HS
   go_wp2_with fail
   go_ret
   exact ⟨ret_b HK.out, HB.out⟩
 ·have hlb : ((xs.length : Int) != (ys.length : Int)) = true := by rw [bne_iff_ne]; omega
  have HK := Aside0.mk (eqL_len eqI xs ys hl)
  clear hl
  go_enter Try.func58, Try.ntmps58
  go_wp2_with fail
  go_ret
  exact ⟨ret_b HK.out, HB.out⟩
set_option maxRecDepth 1000000 in
set_option maxHeartbeats 4000000 in
theorem eqRing_calls (A A2 : Option Addr) (c c2 : Nat) (xs ys : List S88) (w : World) (hx : k88.C w A xs.length xs) (hy : k88.C w A2 ys.length ys) (hc : xs.length ≤ c) (hc2 : ys.length ≤ c2) :
  Calls Try.prog 59 #[.slice A xs.length c, .slice A2 ys.length c2] w fun e w' => e = .returned (.bool (eqL eq88 xs ys)) ∧ Below w.heap.size w w' := by
 have HX := Aside0.mk hx
 have HY := Aside0.mk hy
 have hlx := hx.2.1
 have hlz := hy.2.1
 have HB := Aside0.mk (Below.refl w.heap.size w)
 clear hx hy
 by_cases hl : xs.length = ys.length
 ·have hlb : ((xs.length : Int) != (ys.length : Int)) = false := by rw [bne_eq_false_iff_eq, hl]
  have HL := Aside0.mk hl
  clear hl
  go_enter Try.func59, Try.ntmps59
  go_wp2_with fail
  go_loopg [13] xs.length (fun g i wr => ∃ k : Nat, k ≤ xs.length ∧ g = xs.length - k ∧ i = .int .i64 k ∧ Aside0 (eqL eq88 xs ys = eqL eq88 (xs.drop k) (ys.drop k)) ∧ Aside0 (Below w.heap.size w wr))
  case atStart => exact ⟨0, by omega, rfl, rfl, ⟨rfl⟩, HB⟩
  case round =>
  clear HB
  obtain ⟨k, hk, rfl, rfl, HS, HB⟩ := hrel
  by_cases hlt : k < xs.length
  ·have hd : decide ((k : Int) < (xs.length : Int)) = true := decide_eq_true (by omega)
   have hly : k < ys.length := by have := HL.out; omega
   have HLT := Aside0.mk hlt
   replace HS := Aside0.mk (HS.out.trans (eqL_drop eq88 z88 xs ys k hlt hly))
   obtain ⟨x, ad, hx, e, HA⟩ := ring_at (Kd.C_below HX.out HB.out) k hlt
   subst e
   obtain ⟨y, ad2, hy, e, HA2⟩ := ring_at (Kd.C_below HY.out HB.out) k hly
   subst e
   have HXX := Aside0.mk HA
   have HYY := Aside0.mk HA2
   rw [hx, hy] at HS
   clear hx hy HA HA2
   go_upto_region 6 with fail
   refine start_ (n := 9) (S := fun w_ => Below wr.heap.size wr w_) (ds := []) #[false, false, false, false, false, false, false, false, false] (by kernel_rfl) rfl rfl (drew_below wr) (fun hHeld => ?_)
   have HH := Aside0.mk hHeld
   clear hHeld
   generalize wr.drew = wv at HH ⊢
   refine pure_ (i := 0) (N := some 16) (v := ?_) (a' := ?_) #[true, false, false, false, false, false, false, false, false] rfl rfl (by kernel_rfl) (fun _ _ _ h => h) (Or.inl ⟨by rfl, ?_⟩) ?_ ?_
   rotate_left
   ·intro w_
    go_simp
    with_reducible rfl
   rotate_left
   ·simp only [Act.put, List.setIfInBounds_toArray, List.set_cons_zero, List.set_cons_succ, i64_w, i32_w]
    rfl
   refine pure_ (i := 1) (N := some 17) (v := ?_) (a' := ?_) #[true, true, false, false, false, false, false, false, false] rfl rfl (by kernel_rfl) (fun _ _ _ h => h) (Or.inl ⟨by rfl, ?_⟩) ?_ ?_
   rotate_left
   ·intro w_
    go_simp
    with_reducible rfl
   rotate_left
   ·simp only [Act.put, List.setIfInBounds_toArray, List.set_cons_zero, List.set_cons_succ, i64_w, i32_w]
    rfl
   refine pure_ (i := 2) (N := some 18) (v := ?_) (a' := ?_) #[true, true, true, false, false, false, false, false, false] rfl rfl (by kernel_rfl) (fun _ _ _ h => h) (Or.inl ⟨by rfl, ?_⟩) ?_ ?_
   rotate_left
   ·intro w_
    go_simp
    with_reducible rfl
   rotate_left
   ·simp only [Act.put, List.setIfInBounds_toArray, List.set_cons_zero, List.set_cons_succ, i64_w, i32_w]
    rfl
   refine take_ (i := 3) (N := some 19) (v := ?_) (a' := ?_) #[true, true, true, true, false, false, false, false, false] rfl rfl (by kernel_rfl) (fun _ _ _ h => h) (Or.inl ⟨by rfl, ?_⟩) HH.out ?_ ?_
   rotate_left
   ·rintro w_ s
    refine run88 (HXX.out.below s) (.tmp 18) ?_ ?_ <;> rfl
   rotate_left
   ·simp only [Act.put, List.setIfInBounds_toArray, List.set_cons_zero, List.set_cons_succ, i64_w, i32_w]
    rfl
   refine pure_ (i := 4) (N := some 20) (v := ?_) (a' := ?_) #[true, true, true, true, true, false, false, false, false] rfl rfl (by kernel_rfl) (fun _ _ _ h => h) (Or.inl ⟨by rfl, ?_⟩) ?_ ?_
   rotate_left
   ·intro w_
    go_simp
    with_reducible rfl
   rotate_left
   ·simp only [Act.put, List.setIfInBounds_toArray, List.set_cons_zero, List.set_cons_succ, i64_w, i32_w]
    rfl
   refine pure_ (i := 5) (N := some 21) (v := ?_) (a' := ?_) #[true, true, true, true, true, true, false, false, false] rfl rfl (by kernel_rfl) (fun _ _ _ h => h) (Or.inl ⟨by rfl, ?_⟩) ?_ ?_
   rotate_left
   ·intro w_
    go_simp
    with_reducible rfl
   rotate_left
   ·simp only [Act.put, List.setIfInBounds_toArray, List.set_cons_zero, List.set_cons_succ, i64_w, i32_w]
    rfl
   refine pure_ (i := 6) (N := some 22) (v := ?_) (a' := ?_) #[true, true, true, true, true, true, true, false, false] rfl rfl (by kernel_rfl) (fun _ _ _ h => h) (Or.inl ⟨by rfl, ?_⟩) ?_ ?_
   rotate_left
   ·intro w_
    go_simp
    with_reducible rfl
   rotate_left
   ·simp only [Act.put, List.setIfInBounds_toArray, List.set_cons_zero, List.set_cons_succ, i64_w, i32_w]
    rfl
   refine take_ (i := 7) (N := some 23) (v := ?_) (a' := ?_) #[true, true, true, true, true, true, true, true, false] rfl rfl (by kernel_rfl) (fun _ _ _ h => h) (Or.inl ⟨by rfl, ?_⟩) HH.out ?_ ?_
   rotate_left
   ·rintro w_ s
    refine run88 (HYY.out.below s) (.tmp 22) ?_ ?_ <;> rfl
   rotate_left
   ·simp only [Act.put, List.setIfInBounds_toArray, List.set_cons_zero, List.set_cons_succ, i64_w, i32_w]
    rfl
   refine pure_ (i := 8) (N := some 24) (v := ?_) (a' := ?_) #[true, true, true, true, true, true, true, true, true] rfl rfl (by kernel_rfl) (fun _ _ _ h => h) (Or.inl ⟨by rfl, ?_⟩) ?_ ?_
   rotate_left
   ·intro w_
    refine run_neq88 w_ x y (.tmp 19) (.tmp 23) ?_ ?_ ?_ <;> rfl
   rotate_left
   ·simp only [Act.put, List.setIfInBounds_toArray, List.set_cons_zero, List.set_cons_succ, i64_w, i32_w]
    rfl
   refine done_ (by kernel_rfl) ?_
   have HB2 := Aside0.mk (HB.out.trans (HH.out.mono HB.out.size))
   rcases he : (eq88 x y) with _ | _
   ·have HK := Aside0.mk (show eqL eq88 xs ys = false from by rw [HS.out, show eq88 x y = false from he, Bool.false_and])
    have hq : (!eq88 x y) = true := by rw [he]; rfl
    clear he HS HH
    go_wp2_with fail
    go_ret
    exact ⟨ret_b HK.out, HB2.out⟩
   ·have HK := Aside0.mk (show eqL eq88 xs ys = eqL eq88 (xs.drop (k + 1)) (ys.drop (k + 1)) from by rw [HS.out, show eq88 x y = true from he, Bool.true_and])
    have hq : (!eq88 x y) = false := by rw [he]; rfl
    clear he HS HH
    go_wp2_with fail
    go_roundg (xs.length - (k + 1))
    case measure => have := HLT.out; omega
    case rel => exact ⟨k + 1, HLT.out, rfl, by go_num, HK, HB2⟩
  ·have hd : decide ((k : Int) < (xs.length : Int)) = false := decide_eq_false (by omega)
   have HK := Aside0.mk (show eqL eq88 xs ys = true from by rw [HS.out, List.drop_of_length_le (by omega), List.drop_of_length_le (by have := HL.out; omega)]; rfl)
   clear HS
   go_wp2_with fail
   go_ret
   exact ⟨ret_b HK.out, HB.out⟩
 ·have hlb : ((xs.length : Int) != (ys.length : Int)) = true := by rw [bne_iff_ne]; omega
  have HK := Aside0.mk (eqL_len eq88 xs ys hl)
  clear hl
  go_enter Try.func59, Try.ntmps59
  go_wp2_with fail
  go_ret
  exact ⟨ret_b HK.out, HB.out⟩
set_option maxRecDepth 1000000 in
set_option maxHeartbeats 4000000 in
theorem eqRes_calls (A A2 : Option Addr) (c c2 : Nat) (xs ys : List S66) (w : World) (hx : k66.C w A xs.length xs) (hy : k66.C w A2 ys.length ys) (hc : xs.length ≤ c) (hc2 : ys.length ≤ c2) :
  Calls Try.prog 60 #[.slice A xs.length c, .slice A2 ys.length c2] w fun e w' => e = .returned (.bool (eqL eq66 xs ys)) ∧ Below w.heap.size w w' := by
 have HX := Aside0.mk hx
 have HY := Aside0.mk hy
 have hlx := hx.2.1
 have hlz := hy.2.1
 have HB := Aside0.mk (Below.refl w.heap.size w)
 clear hx hy
 by_cases hl : xs.length = ys.length
 ·have hlb : ((xs.length : Int) != (ys.length : Int)) = false := by rw [bne_eq_false_iff_eq, hl]
  have HL := Aside0.mk hl
  clear hl
  go_enter Try.func60, Try.ntmps60
  go_wp2_with fail
  go_loopg [13] xs.length (fun g i wr => ∃ k : Nat, k ≤ xs.length ∧ g = xs.length - k ∧ i = .int .i64 k ∧ Aside0 (eqL eq66 xs ys = eqL eq66 (xs.drop k) (ys.drop k)) ∧ Aside0 (Below w.heap.size w wr))
  case atStart => exact ⟨0, by omega, rfl, rfl, ⟨rfl⟩, HB⟩
  case round =>
  clear HB
  obtain ⟨k, hk, rfl, rfl, HS, HB⟩ := hrel
  by_cases hlt : k < xs.length
  ·have hd : decide ((k : Int) < (xs.length : Int)) = true := decide_eq_true (by omega)
   have hly : k < ys.length := by have := HL.out; omega
   have HLT := Aside0.mk hlt
   replace HS := Aside0.mk (HS.out.trans (eqL_drop eq66 z66 xs ys k hlt hly))
   obtain ⟨x, ad, hx, e, HA⟩ := res_at (Kd.C_below HX.out HB.out) k hlt
   subst e
   obtain ⟨y, ad2, hy, e, HA2⟩ := res_at (Kd.C_below HY.out HB.out) k hly
   subst e
   have HXX := Aside0.mk HA
   have HYY := Aside0.mk HA2
   rw [hx, hy] at HS
   clear hx hy HA HA2
   go_upto_region 6 with fail
   refine start_ (n := 9) (S := fun w_ => Below wr.heap.size wr w_) (ds := []) #[false, false, false, false, false, false, false, false, false] (by kernel_rfl) rfl rfl (drew_below wr) (fun hHeld => ?_)
   have HH := Aside0.mk hHeld
   clear hHeld
   generalize wr.drew = wv at HH ⊢
   refine pure_ (i := 0) (N := some 16) (v := ?_) (a' := ?_) #[true, false, false, false, false, false, false, false, false] rfl rfl (by kernel_rfl) (fun _ _ _ h => h) (Or.inl ⟨by rfl, ?_⟩) ?_ ?_
   rotate_left
   ·intro w_
    go_simp
    with_reducible rfl
   rotate_left
   ·simp only [Act.put, List.setIfInBounds_toArray, List.set_cons_zero, List.set_cons_succ, i64_w, i32_w]
    rfl
   refine pure_ (i := 1) (N := some 17) (v := ?_) (a' := ?_) #[true, true, false, false, false, false, false, false, false] rfl rfl (by kernel_rfl) (fun _ _ _ h => h) (Or.inl ⟨by rfl, ?_⟩) ?_ ?_
   rotate_left
   ·intro w_
    go_simp
    with_reducible rfl
   rotate_left
   ·simp only [Act.put, List.setIfInBounds_toArray, List.set_cons_zero, List.set_cons_succ, i64_w, i32_w]
    rfl
   refine pure_ (i := 2) (N := some 18) (v := ?_) (a' := ?_) #[true, true, true, false, false, false, false, false, false] rfl rfl (by kernel_rfl) (fun _ _ _ h => h) (Or.inl ⟨by rfl, ?_⟩) ?_ ?_
   rotate_left
   ·intro w_
    go_simp
    with_reducible rfl
   rotate_left
   ·simp only [Act.put, List.setIfInBounds_toArray, List.set_cons_zero, List.set_cons_succ, i64_w, i32_w]
    rfl
   refine take_ (i := 3) (N := some 19) (v := ?_) (a' := ?_) #[true, true, true, true, false, false, false, false, false] rfl rfl (by kernel_rfl) (fun _ _ _ h => h) (Or.inl ⟨by rfl, ?_⟩) HH.out ?_ ?_
   rotate_left
   ·rintro w_ s
    refine run66 (HXX.out.below s) (.tmp 18) ?_ ?_ <;> rfl
   rotate_left
   ·simp only [Act.put, List.setIfInBounds_toArray, List.set_cons_zero, List.set_cons_succ, i64_w, i32_w]
    rfl
   refine pure_ (i := 4) (N := some 20) (v := ?_) (a' := ?_) #[true, true, true, true, true, false, false, false, false] rfl rfl (by kernel_rfl) (fun _ _ _ h => h) (Or.inl ⟨by rfl, ?_⟩) ?_ ?_
   rotate_left
   ·intro w_
    go_simp
    with_reducible rfl
   rotate_left
   ·simp only [Act.put, List.setIfInBounds_toArray, List.set_cons_zero, List.set_cons_succ, i64_w, i32_w]
    rfl
   refine pure_ (i := 5) (N := some 21) (v := ?_) (a' := ?_) #[true, true, true, true, true, true, false, false, false] rfl rfl (by kernel_rfl) (fun _ _ _ h => h) (Or.inl ⟨by rfl, ?_⟩) ?_ ?_
   rotate_left
   ·intro w_
    go_simp
    with_reducible rfl
   rotate_left
   ·simp only [Act.put, List.setIfInBounds_toArray, List.set_cons_zero, List.set_cons_succ, i64_w, i32_w]
    rfl
   refine pure_ (i := 6) (N := some 22) (v := ?_) (a' := ?_) #[true, true, true, true, true, true, true, false, false] rfl rfl (by kernel_rfl) (fun _ _ _ h => h) (Or.inl ⟨by rfl, ?_⟩) ?_ ?_
   rotate_left
   ·intro w_
    go_simp
    with_reducible rfl
   rotate_left
   ·simp only [Act.put, List.setIfInBounds_toArray, List.set_cons_zero, List.set_cons_succ, i64_w, i32_w]
    rfl
   refine take_ (i := 7) (N := some 23) (v := ?_) (a' := ?_) #[true, true, true, true, true, true, true, true, false] rfl rfl (by kernel_rfl) (fun _ _ _ h => h) (Or.inl ⟨by rfl, ?_⟩) HH.out ?_ ?_
   rotate_left
   ·rintro w_ s
    refine run66 (HYY.out.below s) (.tmp 22) ?_ ?_ <;> rfl
   rotate_left
   ·simp only [Act.put, List.setIfInBounds_toArray, List.set_cons_zero, List.set_cons_succ, i64_w, i32_w]
    rfl
   refine pure_ (i := 8) (N := some 24) (v := ?_) (a' := ?_) #[true, true, true, true, true, true, true, true, true] rfl rfl (by kernel_rfl) (fun _ _ _ h => h) (Or.inl ⟨by rfl, ?_⟩) ?_ ?_
   rotate_left
   ·intro w_
    refine run_neq66 w_ x y (.tmp 19) (.tmp 23) ?_ ?_ ?_ <;> rfl
   rotate_left
   ·simp only [Act.put, List.setIfInBounds_toArray, List.set_cons_zero, List.set_cons_succ, i64_w, i32_w]
    rfl
   refine done_ (by kernel_rfl) ?_
   have HB2 := Aside0.mk (HB.out.trans (HH.out.mono HB.out.size))
   rcases he : (eq66 x y) with _ | _
   ·have HK := Aside0.mk (show eqL eq66 xs ys = false from by rw [HS.out, show eq66 x y = false from he, Bool.false_and])
    have hq : (!eq66 x y) = true := by rw [he]; rfl
    clear he HS HH
    go_wp2_with fail
    go_ret
    exact ⟨ret_b HK.out, HB2.out⟩
   ·have HK := Aside0.mk (show eqL eq66 xs ys = eqL eq66 (xs.drop (k + 1)) (ys.drop (k + 1)) from by rw [HS.out, show eq66 x y = true from he, Bool.true_and])
    have hq : (!eq66 x y) = false := by rw [he]; rfl
    clear he HS HH
    go_wp2_with fail
    go_roundg (xs.length - (k + 1))
    case measure => have := HLT.out; omega
    case rel => exact ⟨k + 1, HLT.out, rfl, by go_num, HK, HB2⟩
  ·have hd : decide ((k : Int) < (xs.length : Int)) = false := decide_eq_false (by omega)
   have HK := Aside0.mk (show eqL eq66 xs ys = true from by rw [HS.out, List.drop_of_length_le (by omega), List.drop_of_length_le (by have := HL.out; omega)]; rfl)
   clear HS
   go_wp2_with fail
   go_ret
   exact ⟨ret_b HK.out, HB.out⟩
 ·have hlb : ((xs.length : Int) != (ys.length : Int)) = true := by rw [bne_iff_ne]; omega
  have HK := Aside0.mk (eqL_len eq66 xs ys hl)
  clear hl
  go_enter Try.func60, Try.ntmps60
  go_wp2_with fail
  go_ret
  exact ⟨ret_b HK.out, HB.out⟩
set_option maxRecDepth 1000000 in
set_option maxHeartbeats 4000000 in
theorem eqCtr_calls (A A2 : Option Addr) (c c2 : Nat) (xs ys : List S95) (w : World) (hx : k95.C w A xs.length xs) (hy : k95.C w A2 ys.length ys) (hc : xs.length ≤ c) (hc2 : ys.length ≤ c2) :
  Calls Try.prog 61 #[.slice A xs.length c, .slice A2 ys.length c2] w fun e w' => e = .returned (.bool (eqL eq95 xs ys)) ∧ Below w.heap.size w w' := by
 have HX := Aside0.mk hx
 have HY := Aside0.mk hy
 have hlx := hx.2.1
 have hlz := hy.2.1
 have HB := Aside0.mk (Below.refl w.heap.size w)
 clear hx hy
 by_cases hl : xs.length = ys.length
 ·have hlb : ((xs.length : Int) != (ys.length : Int)) = false := by rw [bne_eq_false_iff_eq, hl]
  have HL := Aside0.mk hl
  clear hl
  go_enter Try.func61, Try.ntmps61
  go_wp2_with fail
  go_loopg [13] xs.length (fun g i wr => ∃ k : Nat, k ≤ xs.length ∧ g = xs.length - k ∧ i = .int .i64 k ∧ Aside0 (eqL eq95 xs ys = eqL eq95 (xs.drop k) (ys.drop k)) ∧ Aside0 (Below w.heap.size w wr))
  case atStart => exact ⟨0, by omega, rfl, rfl, ⟨rfl⟩, HB⟩
  case round =>
  clear HB
  obtain ⟨k, hk, rfl, rfl, HS, HB⟩ := hrel
  by_cases hlt : k < xs.length
  ·have hd : decide ((k : Int) < (xs.length : Int)) = true := decide_eq_true (by omega)
   have hly : k < ys.length := by have := HL.out; omega
   have HLT := Aside0.mk hlt
   replace HS := Aside0.mk (HS.out.trans (eqL_drop eq95 z95 xs ys k hlt hly))
   obtain ⟨x, ad, hx, e, HA⟩ := ctr_at (Kd.C_below HX.out HB.out) k hlt
   subst e
   obtain ⟨y, ad2, hy, e, HA2⟩ := ctr_at (Kd.C_below HY.out HB.out) k hly
   subst e
   have HXX := Aside0.mk HA
   have HYY := Aside0.mk HA2
   rw [hx, hy] at HS
   clear hx hy HA HA2
   go_upto_region 6 with fail
   refine start_ (n := 9) (S := fun w_ => Below wr.heap.size wr w_) (ds := []) #[false, false, false, false, false, false, false, false, false] (by kernel_rfl) rfl rfl (drew_below wr) (fun hHeld => ?_)
   have HH := Aside0.mk hHeld
   clear hHeld
   generalize wr.drew = wv at HH ⊢
   refine pure_ (i := 0) (N := some 16) (v := ?_) (a' := ?_) #[true, false, false, false, false, false, false, false, false] rfl rfl (by kernel_rfl) (fun _ _ _ h => h) (Or.inl ⟨by rfl, ?_⟩) ?_ ?_
   rotate_left
   ·intro w_
    go_simp
    with_reducible rfl
   rotate_left
   ·simp only [Act.put, List.setIfInBounds_toArray, List.set_cons_zero, List.set_cons_succ, i64_w, i32_w]
    rfl
   refine pure_ (i := 1) (N := some 17) (v := ?_) (a' := ?_) #[true, true, false, false, false, false, false, false, false] rfl rfl (by kernel_rfl) (fun _ _ _ h => h) (Or.inl ⟨by rfl, ?_⟩) ?_ ?_
   rotate_left
   ·intro w_
    go_simp
    with_reducible rfl
   rotate_left
   ·simp only [Act.put, List.setIfInBounds_toArray, List.set_cons_zero, List.set_cons_succ, i64_w, i32_w]
    rfl
   refine pure_ (i := 2) (N := some 18) (v := ?_) (a' := ?_) #[true, true, true, false, false, false, false, false, false] rfl rfl (by kernel_rfl) (fun _ _ _ h => h) (Or.inl ⟨by rfl, ?_⟩) ?_ ?_
   rotate_left
   ·intro w_
    go_simp
    with_reducible rfl
   rotate_left
   ·simp only [Act.put, List.setIfInBounds_toArray, List.set_cons_zero, List.set_cons_succ, i64_w, i32_w]
    rfl
   refine take_ (i := 3) (N := some 19) (v := ?_) (a' := ?_) #[true, true, true, true, false, false, false, false, false] rfl rfl (by kernel_rfl) (fun _ _ _ h => h) (Or.inl ⟨by rfl, ?_⟩) HH.out ?_ ?_
   rotate_left
   ·rintro w_ s
    refine run95 (HXX.out.below s) (.tmp 18) ?_ ?_ <;> rfl
   rotate_left
   ·simp only [Act.put, List.setIfInBounds_toArray, List.set_cons_zero, List.set_cons_succ, i64_w, i32_w]
    rfl
   refine pure_ (i := 4) (N := some 20) (v := ?_) (a' := ?_) #[true, true, true, true, true, false, false, false, false] rfl rfl (by kernel_rfl) (fun _ _ _ h => h) (Or.inl ⟨by rfl, ?_⟩) ?_ ?_
   rotate_left
   ·intro w_
    go_simp
    with_reducible rfl
   rotate_left
   ·simp only [Act.put, List.setIfInBounds_toArray, List.set_cons_zero, List.set_cons_succ, i64_w, i32_w]
    rfl
   refine pure_ (i := 5) (N := some 21) (v := ?_) (a' := ?_) #[true, true, true, true, true, true, false, false, false] rfl rfl (by kernel_rfl) (fun _ _ _ h => h) (Or.inl ⟨by rfl, ?_⟩) ?_ ?_
   rotate_left
   ·intro w_
    go_simp
    with_reducible rfl
   rotate_left
   ·simp only [Act.put, List.setIfInBounds_toArray, List.set_cons_zero, List.set_cons_succ, i64_w, i32_w]
    rfl
   refine pure_ (i := 6) (N := some 22) (v := ?_) (a' := ?_) #[true, true, true, true, true, true, true, false, false] rfl rfl (by kernel_rfl) (fun _ _ _ h => h) (Or.inl ⟨by rfl, ?_⟩) ?_ ?_
   rotate_left
   ·intro w_
    go_simp
    with_reducible rfl
   rotate_left
   ·simp only [Act.put, List.setIfInBounds_toArray, List.set_cons_zero, List.set_cons_succ, i64_w, i32_w]
    rfl
   refine take_ (i := 7) (N := some 23) (v := ?_) (a' := ?_) #[true, true, true, true, true, true, true, true, false] rfl rfl (by kernel_rfl) (fun _ _ _ h => h) (Or.inl ⟨by rfl, ?_⟩) HH.out ?_ ?_
   rotate_left
   ·rintro w_ s
    refine run95 (HYY.out.below s) (.tmp 22) ?_ ?_ <;> rfl
   rotate_left
   ·simp only [Act.put, List.setIfInBounds_toArray, List.set_cons_zero, List.set_cons_succ, i64_w, i32_w]
    rfl
   refine pure_ (i := 8) (N := some 24) (v := ?_) (a' := ?_) #[true, true, true, true, true, true, true, true, true] rfl rfl (by kernel_rfl) (fun _ _ _ h => h) (Or.inl ⟨by rfl, ?_⟩) ?_ ?_
   rotate_left
   ·intro w_
    refine run_neq95 w_ x y (.tmp 19) (.tmp 23) ?_ ?_ ?_ <;> rfl
   rotate_left
   ·simp only [Act.put, List.setIfInBounds_toArray, List.set_cons_zero, List.set_cons_succ, i64_w, i32_w]
    rfl
   refine done_ (by kernel_rfl) ?_
   have HB2 := Aside0.mk (HB.out.trans (HH.out.mono HB.out.size))
   rcases he : (eq95 x y) with _ | _
   ·have HK := Aside0.mk (show eqL eq95 xs ys = false from by rw [HS.out, show eq95 x y = false from he, Bool.false_and])
    have hq : (!eq95 x y) = true := by rw [he]; rfl
    clear he HS HH
    go_wp2_with fail
    go_ret
    exact ⟨ret_b HK.out, HB2.out⟩
   ·have HK := Aside0.mk (show eqL eq95 xs ys = eqL eq95 (xs.drop (k + 1)) (ys.drop (k + 1)) from by rw [HS.out, show eq95 x y = true from he, Bool.true_and])
    have hq : (!eq95 x y) = false := by rw [he]; rfl
    clear he HS HH
    go_wp2_with fail
    go_roundg (xs.length - (k + 1))
    case measure => have := HLT.out; omega
    case rel => exact ⟨k + 1, HLT.out, rfl, by go_num, HK, HB2⟩
  ·have hd : decide ((k : Int) < (xs.length : Int)) = false := decide_eq_false (by omega)
   have HK := Aside0.mk (show eqL eq95 xs ys = true from by rw [HS.out, List.drop_of_length_le (by omega), List.drop_of_length_le (by have := HL.out; omega)]; rfl)
   clear HS
   go_wp2_with fail
   go_ret
   exact ⟨ret_b HK.out, HB.out⟩
 ·have hlb : ((xs.length : Int) != (ys.length : Int)) = true := by rw [bne_iff_ne]; omega
  have HK := Aside0.mk (eqL_len eq95 xs ys hl)
  clear hl
  go_enter Try.func61, Try.ntmps61
  go_wp2_with fail
  go_ret
  exact ⟨ret_b HK.out, HB.out⟩
set_option maxRecDepth 1000000 in
set_option maxHeartbeats 4000000 in
theorem eqAlm_calls (A A2 : Option Addr) (c c2 : Nat) (xs ys : List S102) (w : World) (hx : k102.C w A xs.length xs) (hy : k102.C w A2 ys.length ys) (hc : xs.length ≤ c) (hc2 : ys.length ≤ c2) :
  Calls Try.prog 62 #[.slice A xs.length c, .slice A2 ys.length c2] w fun e w' => e = .returned (.bool (eqL eq102 xs ys)) ∧ Below w.heap.size w w' := by
 have HX := Aside0.mk hx
 have HY := Aside0.mk hy
 have hlx := hx.2.1
 have hlz := hy.2.1
 have HB := Aside0.mk (Below.refl w.heap.size w)
 clear hx hy
 by_cases hl : xs.length = ys.length
 ·have hlb : ((xs.length : Int) != (ys.length : Int)) = false := by rw [bne_eq_false_iff_eq, hl]
  have HL := Aside0.mk hl
  clear hl
  go_enter Try.func62, Try.ntmps62
  go_wp2_with fail
  go_loopg [13] xs.length (fun g i wr => ∃ k : Nat, k ≤ xs.length ∧ g = xs.length - k ∧ i = .int .i64 k ∧ Aside0 (eqL eq102 xs ys = eqL eq102 (xs.drop k) (ys.drop k)) ∧ Aside0 (Below w.heap.size w wr))
  case atStart => exact ⟨0, by omega, rfl, rfl, ⟨rfl⟩, HB⟩
  case round =>
  clear HB
  obtain ⟨k, hk, rfl, rfl, HS, HB⟩ := hrel
  by_cases hlt : k < xs.length
  ·have hd : decide ((k : Int) < (xs.length : Int)) = true := decide_eq_true (by omega)
   have hly : k < ys.length := by have := HL.out; omega
   have HLT := Aside0.mk hlt
   replace HS := Aside0.mk (HS.out.trans (eqL_drop eq102 z102 xs ys k hlt hly))
   obtain ⟨x, ad, hx, e, HA⟩ := alm_at (Kd.C_below HX.out HB.out) k hlt
   subst e
   obtain ⟨y, ad2, hy, e, HA2⟩ := alm_at (Kd.C_below HY.out HB.out) k hly
   subst e
   have HXX := Aside0.mk HA
   have HYY := Aside0.mk HA2
   rw [hx, hy] at HS
   clear hx hy HA HA2
   go_upto_region 6 with fail
   refine start_ (n := 9) (S := fun w_ => Below wr.heap.size wr w_) (ds := []) #[false, false, false, false, false, false, false, false, false] (by kernel_rfl) rfl rfl (drew_below wr) (fun hHeld => ?_)
   have HH := Aside0.mk hHeld
   clear hHeld
   generalize wr.drew = wv at HH ⊢
   refine pure_ (i := 0) (N := some 16) (v := ?_) (a' := ?_) #[true, false, false, false, false, false, false, false, false] rfl rfl (by kernel_rfl) (fun _ _ _ h => h) (Or.inl ⟨by rfl, ?_⟩) ?_ ?_
   rotate_left
   ·intro w_
    go_simp
    with_reducible rfl
   rotate_left
   ·simp only [Act.put, List.setIfInBounds_toArray, List.set_cons_zero, List.set_cons_succ, i64_w, i32_w]
    rfl
   refine pure_ (i := 1) (N := some 17) (v := ?_) (a' := ?_) #[true, true, false, false, false, false, false, false, false] rfl rfl (by kernel_rfl) (fun _ _ _ h => h) (Or.inl ⟨by rfl, ?_⟩) ?_ ?_
   rotate_left
   ·intro w_
    go_simp
    with_reducible rfl
   rotate_left
   ·simp only [Act.put, List.setIfInBounds_toArray, List.set_cons_zero, List.set_cons_succ, i64_w, i32_w]
    rfl
   refine pure_ (i := 2) (N := some 18) (v := ?_) (a' := ?_) #[true, true, true, false, false, false, false, false, false] rfl rfl (by kernel_rfl) (fun _ _ _ h => h) (Or.inl ⟨by rfl, ?_⟩) ?_ ?_
   rotate_left
   ·intro w_
    go_simp
    with_reducible rfl
   rotate_left
   ·simp only [Act.put, List.setIfInBounds_toArray, List.set_cons_zero, List.set_cons_succ, i64_w, i32_w]
    rfl
   refine take_ (i := 3) (N := some 19) (v := ?_) (a' := ?_) #[true, true, true, true, false, false, false, false, false] rfl rfl (by kernel_rfl) (fun _ _ _ h => h) (Or.inl ⟨by rfl, ?_⟩) HH.out ?_ ?_
   rotate_left
   ·rintro w_ s
    refine run102 (HXX.out.below s) (.tmp 18) ?_ ?_ <;> rfl
   rotate_left
   ·simp only [Act.put, List.setIfInBounds_toArray, List.set_cons_zero, List.set_cons_succ, i64_w, i32_w]
    rfl
   refine pure_ (i := 4) (N := some 20) (v := ?_) (a' := ?_) #[true, true, true, true, true, false, false, false, false] rfl rfl (by kernel_rfl) (fun _ _ _ h => h) (Or.inl ⟨by rfl, ?_⟩) ?_ ?_
   rotate_left
   ·intro w_
    go_simp
    with_reducible rfl
   rotate_left
   ·simp only [Act.put, List.setIfInBounds_toArray, List.set_cons_zero, List.set_cons_succ, i64_w, i32_w]
    rfl
   refine pure_ (i := 5) (N := some 21) (v := ?_) (a' := ?_) #[true, true, true, true, true, true, false, false, false] rfl rfl (by kernel_rfl) (fun _ _ _ h => h) (Or.inl ⟨by rfl, ?_⟩) ?_ ?_
   rotate_left
   ·intro w_
    go_simp
    with_reducible rfl
   rotate_left
   ·simp only [Act.put, List.setIfInBounds_toArray, List.set_cons_zero, List.set_cons_succ, i64_w, i32_w]
    rfl
   refine pure_ (i := 6) (N := some 22) (v := ?_) (a' := ?_) #[true, true, true, true, true, true, true, false, false] rfl rfl (by kernel_rfl) (fun _ _ _ h => h) (Or.inl ⟨by rfl, ?_⟩) ?_ ?_
   rotate_left
   ·intro w_
    go_simp
    with_reducible rfl
   rotate_left
   ·simp only [Act.put, List.setIfInBounds_toArray, List.set_cons_zero, List.set_cons_succ, i64_w, i32_w]
    rfl
   refine take_ (i := 7) (N := some 23) (v := ?_) (a' := ?_) #[true, true, true, true, true, true, true, true, false] rfl rfl (by kernel_rfl) (fun _ _ _ h => h) (Or.inl ⟨by rfl, ?_⟩) HH.out ?_ ?_
   rotate_left
   ·rintro w_ s
    refine run102 (HYY.out.below s) (.tmp 22) ?_ ?_ <;> rfl
   rotate_left
   ·simp only [Act.put, List.setIfInBounds_toArray, List.set_cons_zero, List.set_cons_succ, i64_w, i32_w]
    rfl
   refine pure_ (i := 8) (N := some 24) (v := ?_) (a' := ?_) #[true, true, true, true, true, true, true, true, true] rfl rfl (by kernel_rfl) (fun _ _ _ h => h) (Or.inl ⟨by rfl, ?_⟩) ?_ ?_
   rotate_left
   ·intro w_
    refine run_neq102 w_ x y (.tmp 19) (.tmp 23) ?_ ?_ ?_ <;> rfl
   rotate_left
   ·simp only [Act.put, List.setIfInBounds_toArray, List.set_cons_zero, List.set_cons_succ, i64_w, i32_w]
    rfl
   refine done_ (by kernel_rfl) ?_
   have HB2 := Aside0.mk (HB.out.trans (HH.out.mono HB.out.size))
   rcases he : (eq102 x y) with _ | _
   ·have HK := Aside0.mk (show eqL eq102 xs ys = false from by rw [HS.out, show eq102 x y = false from he, Bool.false_and])
    have hq : (!eq102 x y) = true := by rw [he]; rfl
    clear he HS HH
    go_wp2_with fail
    go_ret
    exact ⟨ret_b HK.out, HB2.out⟩
   ·have HK := Aside0.mk (show eqL eq102 xs ys = eqL eq102 (xs.drop (k + 1)) (ys.drop (k + 1)) from by rw [HS.out, show eq102 x y = true from he, Bool.true_and])
    have hq : (!eq102 x y) = false := by rw [he]; rfl
    clear he HS HH
    go_wp2_with fail
    go_roundg (xs.length - (k + 1))
    case measure => have := HLT.out; omega
    case rel => exact ⟨k + 1, HLT.out, rfl, by go_num, HK, HB2⟩
  ·have hd : decide ((k : Int) < (xs.length : Int)) = false := decide_eq_false (by omega)
   have HK := Aside0.mk (show eqL eq102 xs ys = true from by rw [HS.out, List.drop_of_length_le (by omega), List.drop_of_length_le (by have := HL.out; omega)]; rfl)
   clear HS
   go_wp2_with fail
   go_ret
   exact ⟨ret_b HK.out, HB.out⟩
 ·have hlb : ((xs.length : Int) != (ys.length : Int)) = true := by rw [bne_iff_ne]; omega
  have HK := Aside0.mk (eqL_len eq102 xs ys hl)
  clear hl
  go_enter Try.func62, Try.ntmps62
  go_wp2_with fail
  go_ret
  exact ⟨ret_b HK.out, HB.out⟩
set_option maxRecDepth 1000000 in
set_option maxHeartbeats 4000000 in
theorem eqMsg_calls (A A2 : Option Addr) (c c2 : Nat) (xs ys : List S113) (w : World) (hx : k113.C w A xs.length xs) (hy : k113.C w A2 ys.length ys) (hc : xs.length ≤ c) (hc2 : ys.length ≤ c2) :
  Calls Try.prog 65 #[.slice A xs.length c, .slice A2 ys.length c2] w fun e w' => e = .returned (.bool (eqL eq113 xs ys)) ∧ Below w.heap.size w w' := by
 have HX := Aside0.mk hx
 have HY := Aside0.mk hy
 have hlx := hx.2.1
 have hlz := hy.2.1
 have HB := Aside0.mk (Below.refl w.heap.size w)
 clear hx hy
 by_cases hl : xs.length = ys.length
 ·have hlb : ((xs.length : Int) != (ys.length : Int)) = false := by rw [bne_eq_false_iff_eq, hl]
  have HL := Aside0.mk hl
  clear hl
  go_enter Try.func65, Try.ntmps65
  go_wp2_with fail
  go_loopg [13] xs.length (fun g i wr => ∃ k : Nat, k ≤ xs.length ∧ g = xs.length - k ∧ i = .int .i64 k ∧ Aside0 (eqL eq113 xs ys = eqL eq113 (xs.drop k) (ys.drop k)) ∧ Aside0 (Below w.heap.size w wr))
  case atStart => exact ⟨0, by omega, rfl, rfl, ⟨rfl⟩, HB⟩
  case round =>
  clear HB
  obtain ⟨k, hk, rfl, rfl, HS, HB⟩ := hrel
  by_cases hlt : k < xs.length
  ·have hd : decide ((k : Int) < (xs.length : Int)) = true := decide_eq_true (by omega)
   have hly : k < ys.length := by have := HL.out; omega
   have HLT := Aside0.mk hlt
   replace HS := Aside0.mk (HS.out.trans (eqL_drop eq113 z113 xs ys k hlt hly))
   obtain ⟨x, ad, hx, e, HA⟩ := msg_at (Kd.C_below HX.out HB.out) k hlt
   subst e
   obtain ⟨y, ad2, hy, e, HA2⟩ := msg_at (Kd.C_below HY.out HB.out) k hly
   subst e
   have HXX := Aside0.mk HA
   have HYY := Aside0.mk HA2
   rw [hx, hy] at HS
   clear hx hy HA HA2
   go_upto_region 6 with fail
   refine start_ (n := 9) (S := fun w_ => Below wr.heap.size wr w_) (ds := []) #[false, false, false, false, false, false, false, false, false] (by kernel_rfl) rfl rfl (drew_below wr) (fun hHeld => ?_)
   have HH := Aside0.mk hHeld
   clear hHeld
   generalize wr.drew = wv at HH ⊢
   refine pure_ (i := 0) (N := some 16) (v := ?_) (a' := ?_) #[true, false, false, false, false, false, false, false, false] rfl rfl (by kernel_rfl) (fun _ _ _ h => h) (Or.inl ⟨by rfl, ?_⟩) ?_ ?_
   rotate_left
   ·intro w_
    go_simp
    with_reducible rfl
   rotate_left
   ·simp only [Act.put, List.setIfInBounds_toArray, List.set_cons_zero, List.set_cons_succ, i64_w, i32_w]
    rfl
   refine pure_ (i := 1) (N := some 17) (v := ?_) (a' := ?_) #[true, true, false, false, false, false, false, false, false] rfl rfl (by kernel_rfl) (fun _ _ _ h => h) (Or.inl ⟨by rfl, ?_⟩) ?_ ?_
   rotate_left
   ·intro w_
    go_simp
    with_reducible rfl
   rotate_left
   ·simp only [Act.put, List.setIfInBounds_toArray, List.set_cons_zero, List.set_cons_succ, i64_w, i32_w]
    rfl
   refine pure_ (i := 2) (N := some 18) (v := ?_) (a' := ?_) #[true, true, true, false, false, false, false, false, false] rfl rfl (by kernel_rfl) (fun _ _ _ h => h) (Or.inl ⟨by rfl, ?_⟩) ?_ ?_
   rotate_left
   ·intro w_
    go_simp
    with_reducible rfl
   rotate_left
   ·simp only [Act.put, List.setIfInBounds_toArray, List.set_cons_zero, List.set_cons_succ, i64_w, i32_w]
    rfl
   refine take_ (i := 3) (N := some 19) (v := ?_) (a' := ?_) #[true, true, true, true, false, false, false, false, false] rfl rfl (by kernel_rfl) (fun _ _ _ h => h) (Or.inl ⟨by rfl, ?_⟩) HH.out ?_ ?_
   rotate_left
   ·rintro w_ s
    refine run113 (HXX.out.below s) (.tmp 18) ?_ ?_ <;> rfl
   rotate_left
   ·simp only [Act.put, List.setIfInBounds_toArray, List.set_cons_zero, List.set_cons_succ, i64_w, i32_w]
    rfl
   refine pure_ (i := 4) (N := some 20) (v := ?_) (a' := ?_) #[true, true, true, true, true, false, false, false, false] rfl rfl (by kernel_rfl) (fun _ _ _ h => h) (Or.inl ⟨by rfl, ?_⟩) ?_ ?_
   rotate_left
   ·intro w_
    go_simp
    with_reducible rfl
   rotate_left
   ·simp only [Act.put, List.setIfInBounds_toArray, List.set_cons_zero, List.set_cons_succ, i64_w, i32_w]
    rfl
   refine pure_ (i := 5) (N := some 21) (v := ?_) (a' := ?_) #[true, true, true, true, true, true, false, false, false] rfl rfl (by kernel_rfl) (fun _ _ _ h => h) (Or.inl ⟨by rfl, ?_⟩) ?_ ?_
   rotate_left
   ·intro w_
    go_simp
    with_reducible rfl
   rotate_left
   ·simp only [Act.put, List.setIfInBounds_toArray, List.set_cons_zero, List.set_cons_succ, i64_w, i32_w]
    rfl
   refine pure_ (i := 6) (N := some 22) (v := ?_) (a' := ?_) #[true, true, true, true, true, true, true, false, false] rfl rfl (by kernel_rfl) (fun _ _ _ h => h) (Or.inl ⟨by rfl, ?_⟩) ?_ ?_
   rotate_left
   ·intro w_
    go_simp
    with_reducible rfl
   rotate_left
   ·simp only [Act.put, List.setIfInBounds_toArray, List.set_cons_zero, List.set_cons_succ, i64_w, i32_w]
    rfl
   refine take_ (i := 7) (N := some 23) (v := ?_) (a' := ?_) #[true, true, true, true, true, true, true, true, false] rfl rfl (by kernel_rfl) (fun _ _ _ h => h) (Or.inl ⟨by rfl, ?_⟩) HH.out ?_ ?_
   rotate_left
   ·rintro w_ s
    refine run113 (HYY.out.below s) (.tmp 22) ?_ ?_ <;> rfl
   rotate_left
   ·simp only [Act.put, List.setIfInBounds_toArray, List.set_cons_zero, List.set_cons_succ, i64_w, i32_w]
    rfl
   refine pure_ (i := 8) (N := some 24) (v := ?_) (a' := ?_) #[true, true, true, true, true, true, true, true, true] rfl rfl (by kernel_rfl) (fun _ _ _ h => h) (Or.inl ⟨by rfl, ?_⟩) ?_ ?_
   rotate_left
   ·intro w_
    refine run_neq113 w_ x y (.tmp 19) (.tmp 23) ?_ ?_ ?_ <;> rfl
   rotate_left
   ·simp only [Act.put, List.setIfInBounds_toArray, List.set_cons_zero, List.set_cons_succ, i64_w, i32_w]
    rfl
   refine done_ (by kernel_rfl) ?_
   have HB2 := Aside0.mk (HB.out.trans (HH.out.mono HB.out.size))
   rcases he : (eq113 x y) with _ | _
   ·have HK := Aside0.mk (show eqL eq113 xs ys = false from by rw [HS.out, show eq113 x y = false from he, Bool.false_and])
    have hq : (!eq113 x y) = true := by rw [he]; rfl
    clear he HS HH
    go_wp2_with fail
    go_ret
    exact ⟨ret_b HK.out, HB2.out⟩
   ·have HK := Aside0.mk (show eqL eq113 xs ys = eqL eq113 (xs.drop (k + 1)) (ys.drop (k + 1)) from by rw [HS.out, show eq113 x y = true from he, Bool.true_and])
    have hq : (!eq113 x y) = false := by rw [he]; rfl
    clear he HS HH
    go_wp2_with fail
    go_roundg (xs.length - (k + 1))
    case measure => have := HLT.out; omega
    case rel => exact ⟨k + 1, HLT.out, rfl, by go_num, HK, HB2⟩
  ·have hd : decide ((k : Int) < (xs.length : Int)) = false := decide_eq_false (by omega)
   have HK := Aside0.mk (show eqL eq113 xs ys = true from by rw [HS.out, List.drop_of_length_le (by omega), List.drop_of_length_le (by have := HL.out; omega)]; rfl)
   clear HS
   go_wp2_with fail
   go_ret
   exact ⟨ret_b HK.out, HB.out⟩
 ·have hlb : ((xs.length : Int) != (ys.length : Int)) = true := by rw [bne_iff_ne]; omega
  have HK := Aside0.mk (eqL_len eq113 xs ys hl)
  clear hl
  go_enter Try.func65, Try.ntmps65
  go_wp2_with fail
  go_ret
  exact ⟨ret_b HK.out, HB.out⟩
end Go.Proofs.Ytbgcemijihpakaa.XA
