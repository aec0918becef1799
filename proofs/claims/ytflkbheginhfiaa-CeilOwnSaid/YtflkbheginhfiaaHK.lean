/- the law's same: two configurations that are alike: it answers true. -/
import Derived.Test.YtflkbheginhfiaaHJ
import Derived.Test.YtflkbheginhfiaaWEqStruct
import Derived.Laws.CopyOwn
namespace Go.Proofs.Ytflkbheginhfiaa.XA
set_option linter.unusedVariables false
set_option linter.unusedSimpArgs false
open Go.RowKit Go.WideMaps Go.Maps Go.Proofs.YtflkbheginhfiaaW.PrintWords Go.Proofs.YtflkbheginhfiaaW.PrintLast Go.Proofs.YtflkbheginhfiaaW.PrintMore
/-- two resources that are one -/
theorem eqA73 (d : Nat) (w : World) (x0 : ByteArray) (x1 x2 : Int) : (Op.equalIn (d + 2) 73 (.agg #[.string x0, .int .i64 x1, .int .i64 x2]) (.agg #[.string x0, .int .i64 x1, .int .i64 x2])).run Try.prog w = .ok true w := by
  have h : (Op.equalIn (d + 2) 73 (.agg #[.string x0, .int .i64 x1, .int .i64 x2]) (.agg #[.string x0, .int .i64 x1, .int .i64 x2])).run Try.prog w = .ok (x0.toList == x0.toList && (x1 == x1 && x2 == x2)) w := by
    refine eqA_of Try.underlying73 (by kernel_rfl) ?_
    refine eqf_cons (by rfl) (by go_simp; rfl) (by go_simp; rfl) (by go_simp) ?_
    refine eqf_cons (by rfl) (by go_simp; rfl) (by go_simp; rfl) (by go_simp) ?_
    exact eqf_last (by rfl) (by go_simp; rfl) (by go_simp; rfl) (by go_simp)
  rw [h]
  simp
theorem neq73 (w : World) (x0 : ByteArray) (x1 x2 : Int) : (binOp .neq 73 (.agg #[.string x0, .int .i64 x1, .int .i64 x2]) (.agg #[.string x0, .int .i64 x1, .int .i64 x2])).run Try.prog w = .ok (.bool false) w := by
  rw [run_neq_struct, eqA73 9998 w x0 x1 x2]
  rfl
theorem run_neq73 {o : Oper} {a : Act} (w : World) (x0 : ByteArray) (x1 x2 : Int) (x y : Operand) (ho : o.op = .binOp .neq 73 x y 73) (hx : a.eval x = .agg #[.string x0, .int .i64 x1, .int .i64 x2]) (hy : a.eval y = .agg #[.string x0, .int .i64 x1, .int .i64 x2]) : (execOp a.eval o).run Try.prog w = .ok (.value (.bool false)) w := by
  have hg := run_eqGuard_agg (P := Try.prog) (w := w) .neq 73 x y #[.string x0, .int .i64 x1, .int .i64 x2] #[.string x0, .int .i64 x1, .int .i64 x2] (by kernel_rfl)
  have hn := neq73 w x0 x1 x2
  simp only [execOp, ho, hx, hy]
  simp [hg, hn, Result.andThen]
section
variable {o : Oper} {a : Act}
theorem run73 {w : World} {ad : Addr} {k : Nat} {t : S73} (hX : ResAt w ad k t) (y : Operand) (ho : o.op = .load 73 y) (hy : a.eval y = .pointer (some (ad.add (k * 3)))) :
    (execOp a.eval o).run Try.prog w = .ok (.value (.agg #[.string t.f0, .int .i64 t.f1, .int .i64 t.f2])) w := by
  have hl := load_agg (w := w) (t := 73) (n := 3) (a := ad.add (k * 3)) agg73 size73 rfl hX.cells
  simp only [execOp, ho, hy]
  simp [hl, Result.andThen]
end
theorem ResAt.below {w w1 : World} {ad : Addr} {k : Nat} {t : S73} (h : ResAt w ad k t) (hB : Below w.heap.size w w1) : ResAt w1 ad k t :=
  ⟨fun j v hj => (hB.cell (World.block_lt_of_cell? w _ (h.cells j v hj))).trans (h.cells j v hj)⟩
structure Alike (ts ts2 : List S64) (is is2 : List S66) : Prop where
  lt : ts2.length = ts.length
  t : ∀ k, k < ts.length → (ts2.getD k z64).f1 = (ts.getD k z64).f1 ∧ (ts2.getD k z64).f2 = (ts.getD k z64).f2 ∧ (ts2.getD k z64).f5 = (ts.getD k z64).f5
  li : is2.length = is.length
  i : ∀ k, k < is.length → (is2.getD k z66).f2 = (is.getD k z66).f2 ∧ (is2.getD k z66).f3 = (is.getD k z66).f3
theorem task_g {w : World} {A : Option Addr} {ts : List S64} (h : k64.C w A ts.length ts) (k : Nat) (hk : k < ts.length) :
    ∃ ad A5 c5, A = some ad ∧ w.cell? ⟨(ad.add (k * 8)).block, (ad.add (k * 8)).off + 1, none⟩ = some (.int .i64 (ts.getD k z64).f1) ∧ w.cell? ⟨(ad.add (k * 8)).block, (ad.add (k * 8)).off + 2, none⟩ = some (.bool (ts.getD k z64).f2) ∧ w.cell? ⟨(ad.add (k * 8)).block, (ad.add (k * 8)).off + 5, none⟩ = some (.slice A5 (ts.getD k z64).f5.length c5) ∧ (Kd.int .i64).C w A5 (ts.getD k z64).f5.length (ts.getD k z64).f5 := by
  obtain ⟨ad, A4, c4, A5, c5, A6, c6, A7, c7, e, _, h1, h2, _, _, h5, _, _, _, _, l5, g5, _⟩ := at_T64 h (k : Int) (by omega) (by omega)
  unfold rd_T64 at h1 h2 h5 l5 g5
  rw [Int.toNat_natCast] at h1 h2 h5 l5 g5
  exact ⟨ad, A5, c5, e, h1, h2, h5, g5⟩
set_option maxRecDepth 1000000 in
set_option maxHeartbeats 4000000 in
theorem same_calls (x : CV) (AT : Option Addr) (cT : Nat) (AR : Option Addr) (cR : Nat) (AI : Option Addr) (cI : Nat) (ts : List S64) (rs : List S73) (is : List S66) (y : CV) (BT : Option Addr) (dT : Nat) (BR : Option Addr) (dR : Nat) (BI : Option Addr) (dI : Nat) (ts2 : List S64) (is2 : List S66) (w : World) (g : Good AT cT AR cR AI cI ts rs is w) (g2 : Cfg w BT dT BR dR BI dI ts2 rs is2) (hal : Alike ts ts2 is is2) (bb : Bool) (hx : x.b9 = bb) (hy : y.b9 = bb) :
    Calls Try.prog 16 #[.agg #[.string x.s0, .string x.s1, .bool x.b2, .bool x.b3, .bool x.b4, .bool x.b5, .bool x.b6, .bool x.b7, .bool x.b8, .bool bb, .slice x.A10 x.n10 x.c10, .slice AT ts.length cT, .slice AR rs.length cR, .slice x.A13 x.n13 x.c13, .slice x.A14 x.n14 x.c14, .slice x.A15 x.n15 x.c15, .slice AI is.length cI, .slice x.A17 x.n17 x.c17], .agg #[.string y.s0, .string y.s1, .bool y.b2, .bool y.b3, .bool y.b4, .bool y.b5, .bool y.b6, .bool y.b7, .bool y.b8, .bool bb, .slice y.A10 y.n10 y.c10, .slice BT ts2.length dT, .slice BR rs.length dR, .slice y.A13 y.n13 y.c13, .slice y.A14 y.n14 y.c14, .slice y.A15 y.n15 y.c15, .slice BI is2.length dI, .slice y.A17 y.n17 y.c17]] w fun e w' => e = .returned (.bool true) ∧ Below w.heap.size w w' := by
  have HG := Aside0.mk g
  have HG2 := Aside0.mk g2
  have HAL := Aside0.mk hal
  have htz := g.t
  have hrz := g.r
  have hiz := g.i
  have hb1 : Below w.heap.size w (w.alloc (.cells #[.string x.s0, .string x.s1, .bool x.b2, .bool x.b3, .bool x.b4, .bool x.b5, .bool x.b6, .bool x.b7, .bool x.b8, .bool bb, .slice x.A10 x.n10 x.c10, .slice AT ts.length cT, .slice AR rs.length cR, .slice x.A13 x.n13 x.c13, .slice x.A14 x.n14 x.c14, .slice x.A15 x.n15 x.c15, .slice AI is.length cI, .slice x.A17 x.n17 x.c17] 36)) := (Below.refl _ _).alloc (Nat.le_refl _) _
  have HBX := Aside0.mk ((BoxAt.made w x AT cT AR cR AI cI ts.length rs.length is.length).below ((Below.refl (w.alloc (.cells (x.arr AT cT AR cR AI cI ts.length rs.length is.length) 36)).heap.size _).alloc (Nat.le_refl _) (.cells (y.arr BT dT BR dR BI dI ts2.length rs.length is2.length) 36)))
  have HBY := Aside0.mk (show BoxAt ((w.alloc (.cells (x.arr AT cT AR cR AI cI ts.length rs.length is.length) 36)).alloc (.cells (y.arr BT dT BR dR BI dI ts2.length rs.length is2.length) 36)) (w.heap.size + 1) y BT dT BR dR BI dI ts2.length rs.length is2.length from by
    have h := BoxAt.made (w.alloc (.cells (x.arr AT cT AR cR AI cI ts.length rs.length is.length) 36)) y BT dT BR dR BI dI ts2.length rs.length is2.length
    rw [World.size_alloc] at h
    exact h)
  unfold CV.arr at HBX HBY
  rw [hx, hy] at HBX HBY
  have HB0 := Aside0.mk (show Below w.heap.size w ((w.alloc (.cells #[.string x.s0, .string x.s1, .bool x.b2, .bool x.b3, .bool x.b4, .bool x.b5, .bool x.b6, .bool x.b7, .bool x.b8, .bool bb, .slice x.A10 x.n10 x.c10, .slice AT ts.length cT, .slice AR rs.length cR, .slice x.A13 x.n13 x.c13, .slice x.A14 x.n14 x.c14, .slice x.A15 x.n15 x.c15, .slice AI is.length cI, .slice x.A17 x.n17 x.c17] 36)).alloc (.cells #[.string y.s0, .string y.s1, .bool y.b2, .bool y.b3, .bool y.b4, .bool y.b5, .bool y.b6, .bool y.b7, .bool y.b8, .bool bb, .slice y.A10 y.n10 y.c10, .slice BT ts2.length dT, .slice BR rs.length dR, .slice y.A13 y.n13 y.c13, .slice y.A14 y.n14 y.c14, .slice y.A15 y.n15 y.c15, .slice BI is2.length dI, .slice y.A17 y.n17 y.c17] 36)) from hb1.alloc (by simp) _)
  clear g g2 hal hb1 hx hy
  have n1 : ((ts.length : Int) != (ts2.length : Int)) = false := by rw [HAL.out.lt]; simp
  have n2 : ((rs.length : Int) != (rs.length : Int)) = false := by simp
  have n3 : ((is.length : Int) != (is2.length : Int)) = false := by rw [HAL.out.li]; simp
  go_enter Try.func16, Try.ntmps16
  go_wp2_with fail
  clear n1 n2 n3
  generalize (w.alloc (.cells #[.string x.s0, .string x.s1, .bool x.b2, .bool x.b3, .bool x.b4, .bool x.b5, .bool x.b6, .bool x.b7, .bool x.b8, .bool bb, .slice x.A10 x.n10 x.c10, .slice AT ts.length cT, .slice AR rs.length cR, .slice x.A13 x.n13 x.c13, .slice x.A14 x.n14 x.c14, .slice x.A15 x.n15 x.c15, .slice AI is.length cI, .slice x.A17 x.n17 x.c17] 36)).alloc (.cells #[.string y.s0, .string y.s1, .bool y.b2, .bool y.b3, .bool y.b4, .bool y.b5, .bool y.b6, .bool y.b7, .bool y.b8, .bool bb, .slice y.A10 y.n10 y.c10, .slice BT ts2.length dT, .slice BR rs.length dR, .slice y.A13 y.n13 y.c13, .slice y.A14 y.n14 y.c14, .slice y.A15 y.n15 y.c15, .slice BI is2.length dI, .slice y.A17 y.n17 y.c17] 36) = w0 at *
  have HX := Aside0.mk (show BoxAt w0 w.heap.size x AT cT AR cR AI cI ts.length rs.length is.length from HBX.out)
  have HC := Aside0.mk (HG.out.cfg.below HB0.out)
  have HC2 := Aside0.mk (HG2.out.below HB0.out)
  clear HBX HG HG2
  go_loopw [5] (fun i wr => ∃ k : Nat, k ≤ ts.length ∧ i = .int .i64 k ∧ Aside0 (Below w0.heap.size w0 wr)) (fun i _ => ts.length - (intOf i).toNat)
  case atStart => exact ⟨0, by omega, rfl, ⟨Below.refl _ _⟩⟩
  case round =>
    obtain ⟨k, hk, rfl, HW⟩ := hrel
    obtain ⟨wo, rfl⟩ : ∃ wo : World, wo = wr := ⟨_, rfl⟩
    have q11 := (HX.out.below HW.out).tasks
    have p11 := (HBY.out.below HW.out).tasks
    rw [HAL.out.lt] at p11
    by_cases hlt : k < ts.length
    · have hd : decide ((k : Int) < (ts.length : Int)) = true := decide_eq_true (by omega)
      have HLT := Aside0.mk (Nat.succ_le_of_lt hlt)
      obtain ⟨e1, e2, e5⟩ := HAL.out.t k hlt
      obtain ⟨ad, A5, c5, eA, h1, h2, h5, g5⟩ := task_g (HC.out.below HW.out).t k hlt
      obtain ⟨bd, B5, d5, eB, k1, k2, k5, f5⟩ := task_g (HC2.out.below HW.out).t k (by rw [HAL.out.lt]; exact hlt)
      rw [e1] at k1
      rw [e2] at k2
      rw [e5] at k5 f5
      subst eA eB
      have HG5 := Aside0.mk g5
      have HF5 := Aside0.mk f5
      have t1 : ((ts.getD k z64).f1 != (ts.getD k z64).f1) = false := by simp
      clear e1 e2 e5 g5 f5
      generalize ts.getD k z64 = t at *
      rcases Bool.eq_false_or_eq_true t.f2 with hf | hf
      all_goals
        rw [hf] at h2 k2
        have HFF := Aside0.mk hf
        clear hf
        go_wp2_with fail
        refine start_ (n := 44) (S := fun w_ => Below wo.heap.size wo w_) (ds := []) #[false, false, false, false, false, false, false, false, false, false, false, false, false, false, false, false, false, false, false, false, false, false, false, false, false, false, false, false, false, false, false, false, false, false, false, false, false, false, false, false, false, false, false, false] (by kernel_rfl) rfl rfl (drew_below wo) (fun hHeld => ?_)
        have HH := Aside0.mk hHeld
        clear hHeld
        generalize wo.drew = wv at HH ⊢
        refine pure_ (i := 0) (N := some 49) (v := ?_) (a' := ?_) #[true, false, false, false, false, false, false, false, false, false, false, false, false, false, false, false, false, false, false, false, false, false, false, false, false, false, false, false, false, false, false, false, false, false, false, false, false, false, false, false, false, false, false, false] rfl rfl (by kernel_rfl) (fun _ _ _ h => h) (Or.inl ⟨by rfl, ?_⟩) ?_ ?_
        rotate_left
        · intro w_
          go_simp
          with_reducible rfl
        rotate_left
        · simp only [Act.put, List.setIfInBounds_toArray, List.set_cons_zero, List.set_cons_succ, i64_w, i32_w]
          rfl
        refine take_ (i := 1) (N := some 50) (v := ?_) (a' := ?_) #[true, true, false, false, false, false, false, false, false, false, false, false, false, false, false, false, false, false, false, false, false, false, false, false, false, false, false, false, false, false, false, false, false, false, false, false, false, false, false, false, false, false, false, false] rfl rfl (by kernel_rfl) (fun _ _ _ h => h) (Or.inl ⟨by rfl, ?_⟩) HH.out ?_ ?_
        rotate_left
        · rintro w_ s
          have q11 := (HX.out.below (HW.out.trans (s.mono HW.out.size))).tasks; have p11 := (s.cell (World.block_lt_of_cell? wo _ p11)).trans p11; have h1 := (s.cell (World.block_lt_of_cell? wo _ h1)).trans h1; have h2 := (s.cell (World.block_lt_of_cell? wo _ h2)).trans h2; have h5 := (s.cell (World.block_lt_of_cell? wo _ h5)).trans h5; have k1 := (s.cell (World.block_lt_of_cell? wo _ k1)).trans k1; have k2 := (s.cell (World.block_lt_of_cell? wo _ k2)).trans k2; have k5 := (s.cell (World.block_lt_of_cell? wo _ k5)).trans k5
          go_simp
          with_reducible rfl
        rotate_left
        · simp only [Act.put, List.setIfInBounds_toArray, List.set_cons_zero, List.set_cons_succ, i64_w, i32_w]
          rfl
        refine pure_ (i := 2) (N := some 51) (v := ?_) (a' := ?_) #[true, true, true, false, false, false, false, false, false, false, false, false, false, false, false, false, false, false, false, false, false, false, false, false, false, false, false, false, false, false, false, false, false, false, false, false, false, false, false, false, false, false, false, false] rfl rfl (by kernel_rfl) (fun _ _ _ h => h) (Or.inl ⟨by rfl, ?_⟩) ?_ ?_
        rotate_left
        · intro w_
          go_simp
          with_reducible rfl
        rotate_left
        · simp only [Act.put, List.setIfInBounds_toArray, List.set_cons_zero, List.set_cons_succ, i64_w, i32_w]
          rfl
        refine pure_ (i := 3) (N := some 52) (v := ?_) (a' := ?_) #[true, true, true, true, false, false, false, false, false, false, false, false, false, false, false, false, false, false, false, false, false, false, false, false, false, false, false, false, false, false, false, false, false, false, false, false, false, false, false, false, false, false, false, false] rfl rfl (by kernel_rfl) (fun _ _ _ h => h) (Or.inl ⟨by rfl, ?_⟩) ?_ ?_
        rotate_left
        · intro w_
          go_simp
          with_reducible rfl
        rotate_left
        · simp only [Act.put, List.setIfInBounds_toArray, List.set_cons_zero, List.set_cons_succ, i64_w, i32_w]
          rfl
        refine pure_ (i := 4) (N := some 53) (v := ?_) (a' := ?_) #[true, true, true, true, true, false, false, false, false, false, false, false, false, false, false, false, false, false, false, false, false, false, false, false, false, false, false, false, false, false, false, false, false, false, false, false, false, false, false, false, false, false, false, false] rfl rfl (by kernel_rfl) (fun _ _ _ h => h) (Or.inl ⟨by rfl, ?_⟩) ?_ ?_
        rotate_left
        · intro w_
          go_simp
          with_reducible rfl
        rotate_left
        · simp only [Act.put, List.setIfInBounds_toArray, List.set_cons_zero, List.set_cons_succ, i64_w, i32_w]
          rfl
        refine take_ (i := 5) (N := some 54) (v := ?_) (a' := ?_) #[true, true, true, true, true, true, false, false, false, false, false, false, false, false, false, false, false, false, false, false, false, false, false, false, false, false, false, false, false, false, false, false, false, false, false, false, false, false, false, false, false, false, false, false] rfl rfl (by kernel_rfl) (fun _ _ _ h => h) (Or.inl ⟨by rfl, ?_⟩) HH.out ?_ ?_
        rotate_left
        · rintro w_ s
          have q11 := (HX.out.below (HW.out.trans (s.mono HW.out.size))).tasks; have p11 := (s.cell (World.block_lt_of_cell? wo _ p11)).trans p11; have h1 := (s.cell (World.block_lt_of_cell? wo _ h1)).trans h1; have h2 := (s.cell (World.block_lt_of_cell? wo _ h2)).trans h2; have h5 := (s.cell (World.block_lt_of_cell? wo _ h5)).trans h5; have k1 := (s.cell (World.block_lt_of_cell? wo _ k1)).trans k1; have k2 := (s.cell (World.block_lt_of_cell? wo _ k2)).trans k2; have k5 := (s.cell (World.block_lt_of_cell? wo _ k5)).trans k5
          go_simp
          with_reducible rfl
        rotate_left
        · simp only [Act.put, List.setIfInBounds_toArray, List.set_cons_zero, List.set_cons_succ, i64_w, i32_w]
          rfl
        refine pure_ (i := 6) (N := some 55) (v := ?_) (a' := ?_) #[true, true, true, true, true, true, true, false, false, false, false, false, false, false, false, false, false, false, false, false, false, false, false, false, false, false, false, false, false, false, false, false, false, false, false, false, false, false, false, false, false, false, false, false] rfl rfl (by kernel_rfl) (fun _ _ _ h => h) (Or.inl ⟨by rfl, ?_⟩) ?_ ?_
        rotate_left
        · intro w_
          go_simp
          with_reducible rfl
        rotate_left
        · simp only [Act.put, List.setIfInBounds_toArray, List.set_cons_zero, List.set_cons_succ, i64_w, i32_w]
          rfl
        refine take_ (i := 7) (N := some 56) (v := ?_) (a' := ?_) #[true, true, true, true, true, true, true, true, false, false, false, false, false, false, false, false, false, false, false, false, false, false, false, false, false, false, false, false, false, false, false, false, false, false, false, false, false, false, false, false, false, false, false, false] rfl rfl (by kernel_rfl) (fun _ _ _ h => h) (Or.inl ⟨by rfl, ?_⟩) HH.out ?_ ?_
        rotate_left
        · rintro w_ s
          have q11 := (HX.out.below (HW.out.trans (s.mono HW.out.size))).tasks; have p11 := (s.cell (World.block_lt_of_cell? wo _ p11)).trans p11; have h1 := (s.cell (World.block_lt_of_cell? wo _ h1)).trans h1; have h2 := (s.cell (World.block_lt_of_cell? wo _ h2)).trans h2; have h5 := (s.cell (World.block_lt_of_cell? wo _ h5)).trans h5; have k1 := (s.cell (World.block_lt_of_cell? wo _ k1)).trans k1; have k2 := (s.cell (World.block_lt_of_cell? wo _ k2)).trans k2; have k5 := (s.cell (World.block_lt_of_cell? wo _ k5)).trans k5
          go_simp
          with_reducible rfl
        rotate_left
        · simp only [Act.put, List.setIfInBounds_toArray, List.set_cons_zero, List.set_cons_succ, i64_w, i32_w]
          rfl
        refine pure_ (i := 8) (N := some 57) (v := ?_) (a' := ?_) #[true, true, true, true, true, true, true, true, true, false, false, false, false, false, false, false, false, false, false, false, false, false, false, false, false, false, false, false, false, false, false, false, false, false, false, false, false, false, false, false, false, false, false, false] rfl rfl (by kernel_rfl) (fun _ _ _ h => h) (Or.inl ⟨by rfl, ?_⟩) ?_ ?_
        rotate_left
        · intro w_
          go_simp
          with_reducible rfl
        rotate_left
        · simp only [Act.put, List.setIfInBounds_toArray, List.set_cons_zero, List.set_cons_succ, i64_w, i32_w]
          rfl
        refine pure_ (i := 9) (N := some 58) (v := ?_) (a' := ?_) #[true, true, true, true, true, true, true, true, true, true, false, false, false, false, false, false, false, false, false, false, false, false, false, false, false, false, false, false, false, false, false, false, false, false, false, false, false, false, false, false, false, false, false, false] rfl rfl (by kernel_rfl) (fun _ _ _ h => h) (Or.inl ⟨by rfl, ?_⟩) ?_ ?_
        rotate_left
        · intro w_
          go_simp
          with_reducible rfl
        rotate_left
        · simp only [Act.put, List.setIfInBounds_toArray, List.set_cons_zero, List.set_cons_succ, i64_w, i32_w]
          rfl
        refine pure_ (i := 10) (N := some 59) (v := ?_) (a' := ?_) #[true, true, true, true, true, true, true, true, true, true, true, false, false, false, false, false, false, false, false, false, false, false, false, false, false, false, false, false, false, false, false, false, false, false, false, false, false, false, false, false, false, false, false, false] rfl rfl (by kernel_rfl) (fun _ _ _ h => h) (Or.inl ⟨by rfl, ?_⟩) ?_ ?_
        rotate_left
        · intro w_
          go_simp
          with_reducible rfl
        rotate_left
        · simp only [Act.put, List.setIfInBounds_toArray, List.set_cons_zero, List.set_cons_succ, i64_w, i32_w]
          rfl
        refine take_ (i := 11) (N := some 60) (v := ?_) (a' := ?_) #[true, true, true, true, true, true, true, true, true, true, true, true, false, false, false, false, false, false, false, false, false, false, false, false, false, false, false, false, false, false, false, false, false, false, false, false, false, false, false, false, false, false, false, false] rfl rfl (by kernel_rfl) (fun _ _ _ h => h) (Or.inl ⟨by rfl, ?_⟩) HH.out ?_ ?_
        rotate_left
        · rintro w_ s
          have q11 := (HX.out.below (HW.out.trans (s.mono HW.out.size))).tasks; have p11 := (s.cell (World.block_lt_of_cell? wo _ p11)).trans p11; have h1 := (s.cell (World.block_lt_of_cell? wo _ h1)).trans h1; have h2 := (s.cell (World.block_lt_of_cell? wo _ h2)).trans h2; have h5 := (s.cell (World.block_lt_of_cell? wo _ h5)).trans h5; have k1 := (s.cell (World.block_lt_of_cell? wo _ k1)).trans k1; have k2 := (s.cell (World.block_lt_of_cell? wo _ k2)).trans k2; have k5 := (s.cell (World.block_lt_of_cell? wo _ k5)).trans k5
          go_simp
          with_reducible rfl
        rotate_left
        · simp only [Act.put, List.setIfInBounds_toArray, List.set_cons_zero, List.set_cons_succ, i64_w, i32_w]
          rfl
        refine pure_ (i := 12) (N := some 61) (v := ?_) (a' := ?_) #[true, true, true, true, true, true, true, true, true, true, true, true, true, false, false, false, false, false, false, false, false, false, false, false, false, false, false, false, false, false, false, false, false, false, false, false, false, false, false, false, false, false, false, false] rfl rfl (by kernel_rfl) (fun _ _ _ h => h) (Or.inl ⟨by rfl, ?_⟩) ?_ ?_
        rotate_left
        · intro w_
          go_simp
          with_reducible rfl
        rotate_left
        · simp only [Act.put, List.setIfInBounds_toArray, List.set_cons_zero, List.set_cons_succ, i64_w, i32_w]
          rfl
        refine pure_ (i := 13) (N := some 62) (v := ?_) (a' := ?_) #[true, true, true, true, true, true, true, true, true, true, true, true, true, true, false, false, false, false, false, false, false, false, false, false, false, false, false, false, false, false, false, false, false, false, false, false, false, false, false, false, false, false, false, false] rfl rfl (by kernel_rfl) (fun _ _ _ h => h) (Or.inl ⟨by rfl, ?_⟩) ?_ ?_
        rotate_left
        · intro w_
          go_simp
          with_reducible rfl
        rotate_left
        · simp only [Act.put, List.setIfInBounds_toArray, List.set_cons_zero, List.set_cons_succ, i64_w, i32_w]
          rfl
        refine pure_ (i := 14) (N := some 63) (v := ?_) (a' := ?_) #[true, true, true, true, true, true, true, true, true, true, true, true, true, true, true, false, false, false, false, false, false, false, false, false, false, false, false, false, false, false, false, false, false, false, false, false, false, false, false, false, false, false, false, false] rfl rfl (by kernel_rfl) (fun _ _ _ h => h) (Or.inl ⟨by rfl, ?_⟩) ?_ ?_
        rotate_left
        · intro w_
          go_simp
          with_reducible rfl
        rotate_left
        · simp only [Act.put, List.setIfInBounds_toArray, List.set_cons_zero, List.set_cons_succ, i64_w, i32_w]
          rfl
        refine take_ (i := 15) (N := some 64) (v := ?_) (a' := ?_) #[true, true, true, true, true, true, true, true, true, true, true, true, true, true, true, true, false, false, false, false, false, false, false, false, false, false, false, false, false, false, false, false, false, false, false, false, false, false, false, false, false, false, false, false] rfl rfl (by kernel_rfl) (fun _ _ _ h => h) (Or.inl ⟨by rfl, ?_⟩) HH.out ?_ ?_
        rotate_left
        · rintro w_ s
          have q11 := (HX.out.below (HW.out.trans (s.mono HW.out.size))).tasks; have p11 := (s.cell (World.block_lt_of_cell? wo _ p11)).trans p11; have h1 := (s.cell (World.block_lt_of_cell? wo _ h1)).trans h1; have h2 := (s.cell (World.block_lt_of_cell? wo _ h2)).trans h2; have h5 := (s.cell (World.block_lt_of_cell? wo _ h5)).trans h5; have k1 := (s.cell (World.block_lt_of_cell? wo _ k1)).trans k1; have k2 := (s.cell (World.block_lt_of_cell? wo _ k2)).trans k2; have k5 := (s.cell (World.block_lt_of_cell? wo _ k5)).trans k5
          go_simp
          with_reducible rfl
        rotate_left
        · simp only [Act.put, List.setIfInBounds_toArray, List.set_cons_zero, List.set_cons_succ, i64_w, i32_w]
          rfl
        refine pure_ (i := 16) (N := some 65) (v := ?_) (a' := ?_) #[true, true, true, true, true, true, true, true, true, true, true, true, true, true, true, true, true, false, false, false, false, false, false, false, false, false, false, false, false, false, false, false, false, false, false, false, false, false, false, false, false, false, false, false] rfl rfl (by kernel_rfl) (fun _ _ _ h => h) (Or.inl ⟨by rfl, ?_⟩) ?_ ?_
        rotate_left
        · intro w_
          go_simp
          with_reducible rfl
        rotate_left
        · simp only [Act.put, List.setIfInBounds_toArray, List.set_cons_zero, List.set_cons_succ, i64_w, i32_w]
          rfl
        refine pure_ (i := 17) (N := some 66) (v := ?_) (a' := ?_) #[true, true, true, true, true, true, true, true, true, true, true, true, true, true, true, true, true, true, false, false, false, false, false, false, false, false, false, false, false, false, false, false, false, false, false, false, false, false, false, false, false, false, false, false] rfl rfl (by kernel_rfl) (fun _ _ _ h => h) (Or.inl ⟨by rfl, ?_⟩) ?_ ?_
        rotate_left
        · intro w_
          go_simp
          with_reducible rfl
        rotate_left
        · simp only [Act.put, List.setIfInBounds_toArray, List.set_cons_zero, List.set_cons_succ, i64_w, i32_w]
          rfl
        refine pure_ (i := 18) (N := some 67) (v := ?_) (a' := ?_) #[true, true, true, true, true, true, true, true, true, true, true, true, true, true, true, true, true, true, true, false, false, false, false, false, false, false, false, false, false, false, false, false, false, false, false, false, false, false, false, false, false, false, false, false] rfl rfl (by kernel_rfl) (fun _ _ _ h => h) (Or.inl ⟨by rfl, ?_⟩) ?_ ?_
        rotate_left
        · intro w_
          go_simp
          with_reducible rfl
        rotate_left
        · simp only [Act.put, List.setIfInBounds_toArray, List.set_cons_zero, List.set_cons_succ, i64_w, i32_w]
          rfl
        refine take_ (i := 19) (N := some 68) (v := ?_) (a' := ?_) #[true, true, true, true, true, true, true, true, true, true, true, true, true, true, true, true, true, true, true, true, false, false, false, false, false, false, false, false, false, false, false, false, false, false, false, false, false, false, false, false, false, false, false, false] rfl rfl (by kernel_rfl) (fun _ _ _ h => h) (Or.inl ⟨by rfl, ?_⟩) HH.out ?_ ?_
        rotate_left
        · rintro w_ s
          have q11 := (HX.out.below (HW.out.trans (s.mono HW.out.size))).tasks; have p11 := (s.cell (World.block_lt_of_cell? wo _ p11)).trans p11; have h1 := (s.cell (World.block_lt_of_cell? wo _ h1)).trans h1; have h2 := (s.cell (World.block_lt_of_cell? wo _ h2)).trans h2; have h5 := (s.cell (World.block_lt_of_cell? wo _ h5)).trans h5; have k1 := (s.cell (World.block_lt_of_cell? wo _ k1)).trans k1; have k2 := (s.cell (World.block_lt_of_cell? wo _ k2)).trans k2; have k5 := (s.cell (World.block_lt_of_cell? wo _ k5)).trans k5
          go_simp
          with_reducible rfl
        rotate_left
        · simp only [Act.put, List.setIfInBounds_toArray, List.set_cons_zero, List.set_cons_succ, i64_w, i32_w]
          rfl
        refine pure_ (i := 20) (N := some 69) (v := ?_) (a' := ?_) #[true, true, true, true, true, true, true, true, true, true, true, true, true, true, true, true, true, true, true, true, true, false, false, false, false, false, false, false, false, false, false, false, false, false, false, false, false, false, false, false, false, false, false, false] rfl rfl (by kernel_rfl) (fun _ _ _ h => h) (Or.inl ⟨by rfl, ?_⟩) ?_ ?_
        rotate_left
        · intro w_
          go_simp
          with_reducible rfl
        rotate_left
        · simp only [Act.put, List.setIfInBounds_toArray, List.set_cons_zero, List.set_cons_succ, i64_w, i32_w]
          rfl
        refine take_ (i := 21) (N := some 70) (v := ?_) (a' := ?_) #[true, true, true, true, true, true, true, true, true, true, true, true, true, true, true, true, true, true, true, true, true, true, false, false, false, false, false, false, false, false, false, false, false, false, false, false, false, false, false, false, false, false, false, false] rfl rfl (by kernel_rfl) (fun _ _ _ h => h) (Or.inl ⟨by rfl, ?_⟩) HH.out ?_ ?_
        rotate_left
        · rintro w_ s
          have q11 := (HX.out.below (HW.out.trans (s.mono HW.out.size))).tasks; have p11 := (s.cell (World.block_lt_of_cell? wo _ p11)).trans p11; have h1 := (s.cell (World.block_lt_of_cell? wo _ h1)).trans h1; have h2 := (s.cell (World.block_lt_of_cell? wo _ h2)).trans h2; have h5 := (s.cell (World.block_lt_of_cell? wo _ h5)).trans h5; have k1 := (s.cell (World.block_lt_of_cell? wo _ k1)).trans k1; have k2 := (s.cell (World.block_lt_of_cell? wo _ k2)).trans k2; have k5 := (s.cell (World.block_lt_of_cell? wo _ k5)).trans k5
          go_simp
          with_reducible rfl
        rotate_left
        · simp only [Act.put, List.setIfInBounds_toArray, List.set_cons_zero, List.set_cons_succ, i64_w, i32_w]
          rfl
        refine pure_ (i := 22) (N := some 71) (v := ?_) (a' := ?_) #[true, true, true, true, true, true, true, true, true, true, true, true, true, true, true, true, true, true, true, true, true, true, true, false, false, false, false, false, false, false, false, false, false, false, false, false, false, false, false, false, false, false, false, false] rfl rfl (by kernel_rfl) (fun _ _ _ h => h) (Or.inl ⟨by rfl, ?_⟩) ?_ ?_
        rotate_left
        · intro w_
          go_simp
          with_reducible rfl
        rotate_left
        · simp only [Act.put, List.setIfInBounds_toArray, List.set_cons_zero, List.set_cons_succ, i64_w, i32_w]
          rfl
        refine pure_ (i := 23) (N := some 72) (v := ?_) (a' := ?_) #[true, true, true, true, true, true, true, true, true, true, true, true, true, true, true, true, true, true, true, true, true, true, true, true, false, false, false, false, false, false, false, false, false, false, false, false, false, false, false, false, false, false, false, false] rfl rfl (by kernel_rfl) (fun _ _ _ h => h) (Or.inl ⟨by rfl, ?_⟩) ?_ ?_
        rotate_left
        · intro w_
          go_simp
          with_reducible rfl
        rotate_left
        · simp only [Act.put, List.setIfInBounds_toArray, List.set_cons_zero, List.set_cons_succ, i64_w, i32_w]
          rfl
        refine pure_ (i := 24) (N := some 73) (v := ?_) (a' := ?_) #[true, true, true, true, true, true, true, true, true, true, true, true, true, true, true, true, true, true, true, true, true, true, true, true, true, false, false, false, false, false, false, false, false, false, false, false, false, false, false, false, false, false, false, false] rfl rfl (by kernel_rfl) (fun _ _ _ h => h) (Or.inl ⟨by rfl, ?_⟩) ?_ ?_
        rotate_left
        · intro w_
          go_simp
          with_reducible rfl
        rotate_left
        · simp only [Act.put, List.setIfInBounds_toArray, List.set_cons_zero, List.set_cons_succ, i64_w, i32_w]
          rfl
        refine take_ (i := 25) (N := some 74) (v := ?_) (a' := ?_) #[true, true, true, true, true, true, true, true, true, true, true, true, true, true, true, true, true, true, true, true, true, true, true, true, true, true, false, false, false, false, false, false, false, false, false, false, false, false, false, false, false, false, false, false] rfl rfl (by kernel_rfl) (fun _ _ _ h => h) (Or.inl ⟨by rfl, ?_⟩) HH.out ?_ ?_
        rotate_left
        · rintro w_ s
          have q11 := (HX.out.below (HW.out.trans (s.mono HW.out.size))).tasks; have p11 := (s.cell (World.block_lt_of_cell? wo _ p11)).trans p11; have h1 := (s.cell (World.block_lt_of_cell? wo _ h1)).trans h1; have h2 := (s.cell (World.block_lt_of_cell? wo _ h2)).trans h2; have h5 := (s.cell (World.block_lt_of_cell? wo _ h5)).trans h5; have k1 := (s.cell (World.block_lt_of_cell? wo _ k1)).trans k1; have k2 := (s.cell (World.block_lt_of_cell? wo _ k2)).trans k2; have k5 := (s.cell (World.block_lt_of_cell? wo _ k5)).trans k5
          go_simp
          with_reducible rfl
        rotate_left
        · simp only [Act.put, List.setIfInBounds_toArray, List.set_cons_zero, List.set_cons_succ, i64_w, i32_w]
          rfl
        refine pure_ (i := 26) (N := some 75) (v := ?_) (a' := ?_) #[true, true, true, true, true, true, true, true, true, true, true, true, true, true, true, true, true, true, true, true, true, true, true, true, true, true, true, false, false, false, false, false, false, false, false, false, false, false, false, false, false, false, false, false] rfl rfl (by kernel_rfl) (fun _ _ _ h => h) (Or.inl ⟨by rfl, ?_⟩) ?_ ?_
        rotate_left
        · intro w_
          go_simp
          with_reducible rfl
        rotate_left
        · simp only [Act.put, List.setIfInBounds_toArray, List.set_cons_zero, List.set_cons_succ, i64_w, i32_w]
          rfl
        refine pure_ (i := 27) (N := some 76) (v := ?_) (a' := ?_) #[true, true, true, true, true, true, true, true, true, true, true, true, true, true, true, true, true, true, true, true, true, true, true, true, true, true, true, true, false, false, false, false, false, false, false, false, false, false, false, false, false, false, false, false] rfl rfl (by kernel_rfl) (fun _ _ _ h => h) (Or.inl ⟨by rfl, ?_⟩) ?_ ?_
        rotate_left
        · intro w_
          go_simp
          with_reducible rfl
        rotate_left
        · simp only [Act.put, List.setIfInBounds_toArray, List.set_cons_zero, List.set_cons_succ, i64_w, i32_w]
          rfl
        refine pure_ (i := 28) (N := some 77) (v := ?_) (a' := ?_) #[true, true, true, true, true, true, true, true, true, true, true, true, true, true, true, true, true, true, true, true, true, true, true, true, true, true, true, true, true, false, false, false, false, false, false, false, false, false, false, false, false, false, false, false] rfl rfl (by kernel_rfl) (fun _ _ _ h => h) (Or.inl ⟨by rfl, ?_⟩) ?_ ?_
        rotate_left
        · intro w_
          go_simp
          with_reducible rfl
        rotate_left
        · simp only [Act.put, List.setIfInBounds_toArray, List.set_cons_zero, List.set_cons_succ, i64_w, i32_w]
          rfl
        refine pure_ (i := 29) (N := some 78) (v := ?_) (a' := ?_) #[true, true, true, true, true, true, true, true, true, true, true, true, true, true, true, true, true, true, true, true, true, true, true, true, true, true, true, true, true, true, false, false, false, false, false, false, false, false, false, false, false, false, false, false] rfl rfl (by kernel_rfl) (fun _ _ _ h => h) (Or.inl ⟨by rfl, ?_⟩) ?_ ?_
        rotate_left
        · intro w_
          go_simp
          with_reducible rfl
        rotate_left
        · simp only [Act.put, List.setIfInBounds_toArray, List.set_cons_zero, List.set_cons_succ, i64_w, i32_w]
          rfl
        refine take_ (i := 30) (N := some 79) (v := ?_) (a' := ?_) #[true, true, true, true, true, true, true, true, true, true, true, true, true, true, true, true, true, true, true, true, true, true, true, true, true, true, true, true, true, true, true, false, false, false, false, false, false, false, false, false, false, false, false, false] rfl rfl (by kernel_rfl) (fun _ _ _ h => h) (Or.inl ⟨by rfl, ?_⟩) HH.out ?_ ?_
        rotate_left
        · rintro w_ s
          have q11 := (HX.out.below (HW.out.trans (s.mono HW.out.size))).tasks; have p11 := (s.cell (World.block_lt_of_cell? wo _ p11)).trans p11; have h1 := (s.cell (World.block_lt_of_cell? wo _ h1)).trans h1; have h2 := (s.cell (World.block_lt_of_cell? wo _ h2)).trans h2; have h5 := (s.cell (World.block_lt_of_cell? wo _ h5)).trans h5; have k1 := (s.cell (World.block_lt_of_cell? wo _ k1)).trans k1; have k2 := (s.cell (World.block_lt_of_cell? wo _ k2)).trans k2; have k5 := (s.cell (World.block_lt_of_cell? wo _ k5)).trans k5
          go_simp
          with_reducible rfl
        rotate_left
        · simp only [Act.put, List.setIfInBounds_toArray, List.set_cons_zero, List.set_cons_succ, i64_w, i32_w]
          rfl
        refine pure_ (i := 31) (N := some 80) (v := ?_) (a' := ?_) #[true, true, true, true, true, true, true, true, true, true, true, true, true, true, true, true, true, true, true, true, true, true, true, true, true, true, true, true, true, true, true, true, false, false, false, false, false, false, false, false, false, false, false, false] rfl rfl (by kernel_rfl) (fun _ _ _ h => h) (Or.inl ⟨by rfl, ?_⟩) ?_ ?_
        rotate_left
        · intro w_
          go_simp
          with_reducible rfl
        rotate_left
        · simp only [Act.put, List.setIfInBounds_toArray, List.set_cons_zero, List.set_cons_succ, i64_w, i32_w]
          rfl
        refine pure_ (i := 32) (N := some 81) (v := ?_) (a' := ?_) #[true, true, true, true, true, true, true, true, true, true, true, true, true, true, true, true, true, true, true, true, true, true, true, true, true, true, true, true, true, true, true, true, true, false, false, false, false, false, false, false, false, false, false, false] rfl rfl (by kernel_rfl) (fun _ _ _ h => h) (Or.inl ⟨by rfl, ?_⟩) ?_ ?_
        rotate_left
        · intro w_
          go_simp
          with_reducible rfl
        rotate_left
        · simp only [Act.put, List.setIfInBounds_toArray, List.set_cons_zero, List.set_cons_succ, i64_w, i32_w]
          rfl
        refine pure_ (i := 33) (N := some 82) (v := ?_) (a' := ?_) #[true, true, true, true, true, true, true, true, true, true, true, true, true, true, true, true, true, true, true, true, true, true, true, true, true, true, true, true, true, true, true, true, true, true, false, false, false, false, false, false, false, false, false, false] rfl rfl (by kernel_rfl) (fun _ _ _ h => h) (Or.inl ⟨by rfl, ?_⟩) ?_ ?_
        rotate_left
        · intro w_
          go_simp
          with_reducible rfl
        rotate_left
        · simp only [Act.put, List.setIfInBounds_toArray, List.set_cons_zero, List.set_cons_succ, i64_w, i32_w]
          rfl
        refine take_ (i := 34) (N := some 83) (v := ?_) (a' := ?_) #[true, true, true, true, true, true, true, true, true, true, true, true, true, true, true, true, true, true, true, true, true, true, true, true, true, true, true, true, true, true, true, true, true, true, true, false, false, false, false, false, false, false, false, false] rfl rfl (by kernel_rfl) (fun _ _ _ h => h) (Or.inl ⟨by rfl, ?_⟩) HH.out ?_ ?_
        rotate_left
        · rintro w_ s
          have q11 := (HX.out.below (HW.out.trans (s.mono HW.out.size))).tasks; have p11 := (s.cell (World.block_lt_of_cell? wo _ p11)).trans p11; have h1 := (s.cell (World.block_lt_of_cell? wo _ h1)).trans h1; have h2 := (s.cell (World.block_lt_of_cell? wo _ h2)).trans h2; have h5 := (s.cell (World.block_lt_of_cell? wo _ h5)).trans h5; have k1 := (s.cell (World.block_lt_of_cell? wo _ k1)).trans k1; have k2 := (s.cell (World.block_lt_of_cell? wo _ k2)).trans k2; have k5 := (s.cell (World.block_lt_of_cell? wo _ k5)).trans k5
          go_simp
          with_reducible rfl
        rotate_left
        · simp only [Act.put, List.setIfInBounds_toArray, List.set_cons_zero, List.set_cons_succ, i64_w, i32_w]
          rfl
        refine pure_ (i := 35) (N := some 84) (v := ?_) (a' := ?_) #[true, true, true, true, true, true, true, true, true, true, true, true, true, true, true, true, true, true, true, true, true, true, true, true, true, true, true, true, true, true, true, true, true, true, true, true, false, false, false, false, false, false, false, false] rfl rfl (by kernel_rfl) (fun _ _ _ h => h) (Or.inl ⟨by rfl, ?_⟩) ?_ ?_
        rotate_left
        · intro w_
          go_simp
          with_reducible rfl
        rotate_left
        · simp only [Act.put, List.setIfInBounds_toArray, List.set_cons_zero, List.set_cons_succ, i64_w, i32_w]
          rfl
        refine take_ (i := 36) (N := some 85) (v := ?_) (a' := ?_) #[true, true, true, true, true, true, true, true, true, true, true, true, true, true, true, true, true, true, true, true, true, true, true, true, true, true, true, true, true, true, true, true, true, true, true, true, true, false, false, false, false, false, false, false] rfl rfl (by kernel_rfl) (fun _ _ _ h => h) (Or.inl ⟨by rfl, ?_⟩) HH.out ?_ ?_
        rotate_left
        · rintro w_ s
          have q11 := (HX.out.below (HW.out.trans (s.mono HW.out.size))).tasks; have p11 := (s.cell (World.block_lt_of_cell? wo _ p11)).trans p11; have h1 := (s.cell (World.block_lt_of_cell? wo _ h1)).trans h1; have h2 := (s.cell (World.block_lt_of_cell? wo _ h2)).trans h2; have h5 := (s.cell (World.block_lt_of_cell? wo _ h5)).trans h5; have k1 := (s.cell (World.block_lt_of_cell? wo _ k1)).trans k1; have k2 := (s.cell (World.block_lt_of_cell? wo _ k2)).trans k2; have k5 := (s.cell (World.block_lt_of_cell? wo _ k5)).trans k5
          go_simp
          with_reducible rfl
        rotate_left
        · simp only [Act.put, List.setIfInBounds_toArray, List.set_cons_zero, List.set_cons_succ, i64_w, i32_w]
          rfl
        refine pure_ (i := 37) (N := some 86) (v := ?_) (a' := ?_) #[true, true, true, true, true, true, true, true, true, true, true, true, true, true, true, true, true, true, true, true, true, true, true, true, true, true, true, true, true, true, true, true, true, true, true, true, true, true, false, false, false, false, false, false] rfl rfl (by kernel_rfl) (fun _ _ _ h => h) (Or.inl ⟨by rfl, ?_⟩) ?_ ?_
        rotate_left
        · intro w_
          go_simp
          with_reducible rfl
        rotate_left
        · simp only [Act.put, List.setIfInBounds_toArray, List.set_cons_zero, List.set_cons_succ, i64_w, i32_w]
          rfl
        refine pure_ (i := 38) (N := some 87) (v := ?_) (a' := ?_) #[true, true, true, true, true, true, true, true, true, true, true, true, true, true, true, true, true, true, true, true, true, true, true, true, true, true, true, true, true, true, true, true, true, true, true, true, true, true, true, false, false, false, false, false] rfl rfl (by kernel_rfl) (fun _ _ _ h => h) (Or.inl ⟨by rfl, ?_⟩) ?_ ?_
        rotate_left
        · intro w_
          go_simp
          with_reducible rfl
        rotate_left
        · simp only [Act.put, List.setIfInBounds_toArray, List.set_cons_zero, List.set_cons_succ, i64_w, i32_w]
          rfl
        refine pure_ (i := 39) (N := some 88) (v := ?_) (a' := ?_) #[true, true, true, true, true, true, true, true, true, true, true, true, true, true, true, true, true, true, true, true, true, true, true, true, true, true, true, true, true, true, true, true, true, true, true, true, true, true, true, true, false, false, false, false] rfl rfl (by kernel_rfl) (fun _ _ _ h => h) (Or.inl ⟨by rfl, ?_⟩) ?_ ?_
        rotate_left
        · intro w_
          go_simp
          with_reducible rfl
        rotate_left
        · simp only [Act.put, List.setIfInBounds_toArray, List.set_cons_zero, List.set_cons_succ, i64_w, i32_w]
          rfl
        refine take_ (i := 40) (N := some 89) (v := ?_) (a' := ?_) #[true, true, true, true, true, true, true, true, true, true, true, true, true, true, true, true, true, true, true, true, true, true, true, true, true, true, true, true, true, true, true, true, true, true, true, true, true, true, true, true, true, false, false, false] rfl rfl (by kernel_rfl) (fun _ _ _ h => h) (Or.inl ⟨by rfl, ?_⟩) HH.out ?_ ?_
        rotate_left
        · rintro w_ s
          have q11 := (HX.out.below (HW.out.trans (s.mono HW.out.size))).tasks; have p11 := (s.cell (World.block_lt_of_cell? wo _ p11)).trans p11; have h1 := (s.cell (World.block_lt_of_cell? wo _ h1)).trans h1; have h2 := (s.cell (World.block_lt_of_cell? wo _ h2)).trans h2; have h5 := (s.cell (World.block_lt_of_cell? wo _ h5)).trans h5; have k1 := (s.cell (World.block_lt_of_cell? wo _ k1)).trans k1; have k2 := (s.cell (World.block_lt_of_cell? wo _ k2)).trans k2; have k5 := (s.cell (World.block_lt_of_cell? wo _ k5)).trans k5
          go_simp
          with_reducible rfl
        rotate_left
        · simp only [Act.put, List.setIfInBounds_toArray, List.set_cons_zero, List.set_cons_succ, i64_w, i32_w]
          rfl
        refine one_ (i := 41) (N := some 90) #[true, true, true, true, true, true, true, true, true, true, true, true, true, true, true, true, true, true, true, true, true, true, true, true, true, true, true, true, true, true, true, true, true, true, true, true, true, true, true, true, true, true, false, false] rfl rfl (by kernel_rfl) (by decide) (fun K hK => ?_)
        refine goes_ Try.func20 (by kernel_rfl) rfl #[.slice A5 t.f5.length c5, .slice B5 t.f5.length d5] (by rfl) rfl rfl (by first | rfl | (simp only [List.map_toArray, List.map_cons, List.map_nil]; rfl) | simp) ?_
        refine (ints_true A5 B5 c5 d5 t.f5 wv (Kd.C_below HG5.out HH.out) (Kd.C_below HF5.out HH.out)).mono ?_
        rintro e wb ⟨rfl, B2⟩
        refine ⟨_, rfl, ?_⟩
        have HH2 := Aside0.mk (HH.out.trans (B2.mono HH.out.size))
        clear HH B2
        have HH := HH2
        clear HH2
        refine hK.out _ _ HH.out (fun _ => ?_)
        clear hK K
        refine norm_ (a' := ?_) ?_ ?_
        rotate_left
        · show Act.put _ (some 90) _ = _
          simp only [Act.put, List.setIfInBounds_toArray, List.set_cons_zero, List.set_cons_succ, i64_w, i32_w]
          rfl
        refine pure_ (i := 42) (N := some 91) (v := ?_) (a' := ?_) #[true, true, true, true, true, true, true, true, true, true, true, true, true, true, true, true, true, true, true, true, true, true, true, true, true, true, true, true, true, true, true, true, true, true, true, true, true, true, true, true, true, true, true, false] rfl rfl (by kernel_rfl) (fun _ _ _ h => h) (Or.inl ⟨by rfl, ?_⟩) ?_ ?_
        rotate_left
        · intro w_
          go_simp
          with_reducible rfl
        rotate_left
        · simp only [Act.put, List.setIfInBounds_toArray, List.set_cons_zero, List.set_cons_succ, i64_w, i32_w]
          rfl
        refine pure_ (i := 43) (N := some 92) (v := ?_) (a' := ?_) #[true, true, true, true, true, true, true, true, true, true, true, true, true, true, true, true, true, true, true, true, true, true, true, true, true, true, true, true, true, true, true, true, true, true, true, true, true, true, true, true, true, true, true, true] rfl rfl (by kernel_rfl) (fun _ _ _ h => h) (Or.inl ⟨by rfl, ?_⟩) ?_ ?_
        rotate_left
        · intro w_
          go_simp
          with_reducible rfl
        rotate_left
        · simp only [Act.put, List.setIfInBounds_toArray, List.set_cons_zero, List.set_cons_succ, i64_w, i32_w]
          rfl
        refine done_ (by kernel_rfl) ?_
        go_wp2_with fail
        go_roundw
        case rel => exact ⟨k + 1, HLT.out, by go_num, ⟨HW.out.trans (HH.out.mono HW.out.size)⟩⟩
        case measure => have := HLT.out; simp [intOf]; omega
    · have hd : decide ((k : Int) < (ts.length : Int)) = false := decide_eq_false (by omega)
      go_wp2_with fail
      clear q11 p11 hd hlt hk
      go_loopw [6] (fun i wr => ∃ k : Nat, k ≤ rs.length ∧ i = .int .i64 k ∧ Aside0 (Below w0.heap.size w0 wr)) (fun i _ => rs.length - (intOf i).toNat)
      case atStart => exact ⟨0, by omega, rfl, HW⟩
      case round =>
        clear HW
        obtain ⟨k, hk, rfl, HW⟩ := hrel
        obtain ⟨wi, rfl⟩ : ∃ wi : World, wi = wr := ⟨_, rfl⟩
        have q12 := (HX.out.below HW.out).res
        have p12 := (HBY.out.below HW.out).res
        by_cases hlt : k < rs.length
        · have hd : decide ((k : Int) < (rs.length : Int)) = true := decide_eq_true (by omega)
          have HLT := Aside0.mk (Nat.succ_le_of_lt hlt)
          obtain ⟨ad, eA, hra⟩ := res_cells (HC.out.below HW.out).r k hlt
          obtain ⟨bd, eB, hrb⟩ := res_cells (HC2.out.below HW.out).r k hlt
          subst eA eB
          have HTK104 := Aside0.mk hra
          have HTK109 := Aside0.mk hrb
          clear hra hrb
          generalize rs.getD k z73 = t at *
          go_wp2_with fail
          refine start_ (n := 11) (S := fun w_ => Below wi.heap.size wi w_) (ds := []) #[false, false, false, false, false, false, false, false, false, false, false] (by kernel_rfl) rfl rfl (drew_below wi) (fun hHeld => ?_)
          have HH := Aside0.mk hHeld
          clear hHeld
          generalize wi.drew = wv at HH ⊢
          refine pure_ (i := 0) (N := some 100) (v := ?_) (a' := ?_) #[true, false, false, false, false, false, false, false, false, false, false] rfl rfl (by kernel_rfl) (fun _ _ _ h => h) (Or.inl ⟨by rfl, ?_⟩) ?_ ?_
          rotate_left
          · intro w_
            go_simp
            with_reducible rfl
          rotate_left
          · simp only [Act.put, List.setIfInBounds_toArray, List.set_cons_zero, List.set_cons_succ, i64_w, i32_w]
            rfl
          refine take_ (i := 1) (N := some 101) (v := ?_) (a' := ?_) #[true, true, false, false, false, false, false, false, false, false, false] rfl rfl (by kernel_rfl) (fun _ _ _ h => h) (Or.inl ⟨by rfl, ?_⟩) HH.out ?_ ?_
          rotate_left
          · rintro w_ s
            have q12 := (HX.out.below (HW.out.trans (s.mono HW.out.size))).res; have p12 := (HBY.out.below (HW.out.trans (s.mono HW.out.size))).res
            go_simp
            with_reducible rfl
          rotate_left
          · simp only [Act.put, List.setIfInBounds_toArray, List.set_cons_zero, List.set_cons_succ, i64_w, i32_w]
            rfl
          refine pure_ (i := 2) (N := some 102) (v := ?_) (a' := ?_) #[true, true, true, false, false, false, false, false, false, false, false] rfl rfl (by kernel_rfl) (fun _ _ _ h => h) (Or.inl ⟨by rfl, ?_⟩) ?_ ?_
          rotate_left
          · intro w_
            go_simp
            with_reducible rfl
          rotate_left
          · simp only [Act.put, List.setIfInBounds_toArray, List.set_cons_zero, List.set_cons_succ, i64_w, i32_w]
            rfl
          refine pure_ (i := 3) (N := some 103) (v := ?_) (a' := ?_) #[true, true, true, true, false, false, false, false, false, false, false] rfl rfl (by kernel_rfl) (fun _ _ _ h => h) (Or.inl ⟨by rfl, ?_⟩) ?_ ?_
          rotate_left
          · intro w_
            go_simp
            with_reducible rfl
          rotate_left
          · simp only [Act.put, List.setIfInBounds_toArray, List.set_cons_zero, List.set_cons_succ, i64_w, i32_w]
            rfl
          refine take_ (i := 4) (N := some 104) (v := ?_) (a' := ?_) #[true, true, true, true, true, false, false, false, false, false, false] rfl rfl (by kernel_rfl) (fun _ _ _ h => h) (Or.inl ⟨by rfl, ?_⟩) HH.out ?_ ?_
          rotate_left
          · rintro w_ s
            refine run73 (HTK104.out.below s) (.tmp 103) ?_ ?_ <;> rfl
          rotate_left
          · simp only [Act.put, List.setIfInBounds_toArray, List.set_cons_zero, List.set_cons_succ, i64_w, i32_w]
            rfl
          refine pure_ (i := 5) (N := some 105) (v := ?_) (a' := ?_) #[true, true, true, true, true, true, false, false, false, false, false] rfl rfl (by kernel_rfl) (fun _ _ _ h => h) (Or.inl ⟨by rfl, ?_⟩) ?_ ?_
          rotate_left
          · intro w_
            go_simp
            with_reducible rfl
          rotate_left
          · simp only [Act.put, List.setIfInBounds_toArray, List.set_cons_zero, List.set_cons_succ, i64_w, i32_w]
            rfl
          refine take_ (i := 6) (N := some 106) (v := ?_) (a' := ?_) #[true, true, true, true, true, true, true, false, false, false, false] rfl rfl (by kernel_rfl) (fun _ _ _ h => h) (Or.inl ⟨by rfl, ?_⟩) HH.out ?_ ?_
          rotate_left
          · rintro w_ s
            have q12 := (HX.out.below (HW.out.trans (s.mono HW.out.size))).res; have p12 := (HBY.out.below (HW.out.trans (s.mono HW.out.size))).res
            go_simp
            with_reducible rfl
          rotate_left
          · simp only [Act.put, List.setIfInBounds_toArray, List.set_cons_zero, List.set_cons_succ, i64_w, i32_w]
            rfl
          refine pure_ (i := 7) (N := some 107) (v := ?_) (a' := ?_) #[true, true, true, true, true, true, true, true, false, false, false] rfl rfl (by kernel_rfl) (fun _ _ _ h => h) (Or.inl ⟨by rfl, ?_⟩) ?_ ?_
          rotate_left
          · intro w_
            go_simp
            with_reducible rfl
          rotate_left
          · simp only [Act.put, List.setIfInBounds_toArray, List.set_cons_zero, List.set_cons_succ, i64_w, i32_w]
            rfl
          refine pure_ (i := 8) (N := some 108) (v := ?_) (a' := ?_) #[true, true, true, true, true, true, true, true, true, false, false] rfl rfl (by kernel_rfl) (fun _ _ _ h => h) (Or.inl ⟨by rfl, ?_⟩) ?_ ?_
          rotate_left
          · intro w_
            go_simp
            with_reducible rfl
          rotate_left
          · simp only [Act.put, List.setIfInBounds_toArray, List.set_cons_zero, List.set_cons_succ, i64_w, i32_w]
            rfl
          refine take_ (i := 9) (N := some 109) (v := ?_) (a' := ?_) #[true, true, true, true, true, true, true, true, true, true, false] rfl rfl (by kernel_rfl) (fun _ _ _ h => h) (Or.inl ⟨by rfl, ?_⟩) HH.out ?_ ?_
          rotate_left
          · rintro w_ s
            refine run73 (HTK109.out.below s) (.tmp 108) ?_ ?_ <;> rfl
          rotate_left
          · simp only [Act.put, List.setIfInBounds_toArray, List.set_cons_zero, List.set_cons_succ, i64_w, i32_w]
            rfl
          refine pure_ (i := 10) (N := some 110) (v := ?_) (a' := ?_) #[true, true, true, true, true, true, true, true, true, true, true] rfl rfl (by kernel_rfl) (fun _ _ _ h => h) (Or.inl ⟨by rfl, ?_⟩) ?_ ?_
          rotate_left
          · intro w_
            refine run_neq73 w_ t.f0 t.f1 t.f2 (.tmp 104) (.tmp 109) ?_ ?_ ?_ <;> rfl
          rotate_left
          · simp only [Act.put, List.setIfInBounds_toArray, List.set_cons_zero, List.set_cons_succ, i64_w, i32_w]
            rfl
          refine done_ (by kernel_rfl) ?_
          go_wp2_with fail
          go_roundw
          case rel => exact ⟨k + 1, HLT.out, by go_num, ⟨HW.out.trans (HH.out.mono HW.out.size)⟩⟩
          case measure => have := HLT.out; simp [intOf]; omega
        · have hd : decide ((k : Int) < (rs.length : Int)) = false := decide_eq_false (by omega)
          go_wp2_with fail
          clear q12 p12 hd hlt hk
          go_loopw [7] (fun i wr => ∃ k : Nat, k ≤ is.length ∧ i = .int .i64 k ∧ Aside0 (Below w0.heap.size w0 wr)) (fun i _ => is.length - (intOf i).toNat)
          case atStart => exact ⟨0, by omega, rfl, HW⟩
          case round =>
            clear HW
            obtain ⟨k, hk, rfl, HW⟩ := hrel
            obtain ⟨wj, rfl⟩ : ∃ wj : World, wj = wr := ⟨_, rfl⟩
            have q16 := (HX.out.below HW.out).isrs
            have p16 := (HBY.out.below HW.out).isrs
            rw [HAL.out.li] at p16
            by_cases hlt : k < is.length
            · have hd : decide ((k : Int) < (is.length : Int)) = true := decide_eq_true (by omega)
              have HLT := Aside0.mk (Nat.succ_le_of_lt hlt)
              obtain ⟨e2, e3⟩ := HAL.out.i k hlt
              obtain ⟨ad, A3, c3, eA, h2, h3, _, g3⟩ := isr_f (HC.out.below HW.out).i k hlt
              obtain ⟨bd, B3, d3, eB, k2, k3, _, f3⟩ := isr_f (HC2.out.below HW.out).i k (by rw [HAL.out.li]; exact hlt)
              rw [e2] at k2
              rw [e3] at k3 f3
              subst eA eB
              have HG3 := Aside0.mk g3
              have HF3 := Aside0.mk f3
              have t1 : ((is.getD k z66).f2 != (is.getD k z66).f2) = false := by simp
              clear e2 e3 g3 f3
              generalize is.getD k z66 = t at *
              go_wp2_with fail
              refine start_ (n := 29) (S := fun w_ => Below wj.heap.size wj w_) (ds := []) #[false, false, false, false, false, false, false, false, false, false, false, false, false, false, false, false, false, false, false, false, false, false, false, false, false, false, false, false, false] (by kernel_rfl) rfl rfl (drew_below wj) (fun hHeld => ?_)
              have HH := Aside0.mk hHeld
              clear hHeld
              generalize wj.drew = wv at HH ⊢
              refine pure_ (i := 0) (N := some 118) (v := ?_) (a' := ?_) #[true, false, false, false, false, false, false, false, false, false, false, false, false, false, false, false, false, false, false, false, false, false, false, false, false, false, false, false, false] rfl rfl (by kernel_rfl) (fun _ _ _ h => h) (Or.inl ⟨by rfl, ?_⟩) ?_ ?_
              rotate_left
              · intro w_
                go_simp
                with_reducible rfl
              rotate_left
              · simp only [Act.put, List.setIfInBounds_toArray, List.set_cons_zero, List.set_cons_succ, i64_w, i32_w]
                rfl
              refine take_ (i := 1) (N := some 119) (v := ?_) (a' := ?_) #[true, true, false, false, false, false, false, false, false, false, false, false, false, false, false, false, false, false, false, false, false, false, false, false, false, false, false, false, false] rfl rfl (by kernel_rfl) (fun _ _ _ h => h) (Or.inl ⟨by rfl, ?_⟩) HH.out ?_ ?_
              rotate_left
              · rintro w_ s
                have q16 := (HX.out.below (HW.out.trans (s.mono HW.out.size))).isrs; have p16 := (s.cell (World.block_lt_of_cell? wj _ p16)).trans p16; have h2 := (s.cell (World.block_lt_of_cell? wj _ h2)).trans h2; have h3 := (s.cell (World.block_lt_of_cell? wj _ h3)).trans h3; have k2 := (s.cell (World.block_lt_of_cell? wj _ k2)).trans k2; have k3 := (s.cell (World.block_lt_of_cell? wj _ k3)).trans k3
                go_simp
                with_reducible rfl
              rotate_left
              · simp only [Act.put, List.setIfInBounds_toArray, List.set_cons_zero, List.set_cons_succ, i64_w, i32_w]
                rfl
              refine pure_ (i := 2) (N := some 120) (v := ?_) (a' := ?_) #[true, true, true, false, false, false, false, false, false, false, false, false, false, false, false, false, false, false, false, false, false, false, false, false, false, false, false, false, false] rfl rfl (by kernel_rfl) (fun _ _ _ h => h) (Or.inl ⟨by rfl, ?_⟩) ?_ ?_
              rotate_left
              · intro w_
                go_simp
                with_reducible rfl
              rotate_left
              · simp only [Act.put, List.setIfInBounds_toArray, List.set_cons_zero, List.set_cons_succ, i64_w, i32_w]
                rfl
              refine pure_ (i := 3) (N := some 121) (v := ?_) (a' := ?_) #[true, true, true, true, false, false, false, false, false, false, false, false, false, false, false, false, false, false, false, false, false, false, false, false, false, false, false, false, false] rfl rfl (by kernel_rfl) (fun _ _ _ h => h) (Or.inl ⟨by rfl, ?_⟩) ?_ ?_
              rotate_left
              · intro w_
                go_simp
                with_reducible rfl
              rotate_left
              · simp only [Act.put, List.setIfInBounds_toArray, List.set_cons_zero, List.set_cons_succ, i64_w, i32_w]
                rfl
              refine pure_ (i := 4) (N := some 122) (v := ?_) (a' := ?_) #[true, true, true, true, true, false, false, false, false, false, false, false, false, false, false, false, false, false, false, false, false, false, false, false, false, false, false, false, false] rfl rfl (by kernel_rfl) (fun _ _ _ h => h) (Or.inl ⟨by rfl, ?_⟩) ?_ ?_
              rotate_left
              · intro w_
                go_simp
                with_reducible rfl
              rotate_left
              · simp only [Act.put, List.setIfInBounds_toArray, List.set_cons_zero, List.set_cons_succ, i64_w, i32_w]
                rfl
              refine take_ (i := 5) (N := some 123) (v := ?_) (a' := ?_) #[true, true, true, true, true, true, false, false, false, false, false, false, false, false, false, false, false, false, false, false, false, false, false, false, false, false, false, false, false] rfl rfl (by kernel_rfl) (fun _ _ _ h => h) (Or.inl ⟨by rfl, ?_⟩) HH.out ?_ ?_
              rotate_left
              · rintro w_ s
                have q16 := (HX.out.below (HW.out.trans (s.mono HW.out.size))).isrs; have p16 := (s.cell (World.block_lt_of_cell? wj _ p16)).trans p16; have h2 := (s.cell (World.block_lt_of_cell? wj _ h2)).trans h2; have h3 := (s.cell (World.block_lt_of_cell? wj _ h3)).trans h3; have k2 := (s.cell (World.block_lt_of_cell? wj _ k2)).trans k2; have k3 := (s.cell (World.block_lt_of_cell? wj _ k3)).trans k3
                go_simp
                with_reducible rfl
              rotate_left
              · simp only [Act.put, List.setIfInBounds_toArray, List.set_cons_zero, List.set_cons_succ, i64_w, i32_w]
                rfl
              refine pure_ (i := 6) (N := some 124) (v := ?_) (a' := ?_) #[true, true, true, true, true, true, true, false, false, false, false, false, false, false, false, false, false, false, false, false, false, false, false, false, false, false, false, false, false] rfl rfl (by kernel_rfl) (fun _ _ _ h => h) (Or.inl ⟨by rfl, ?_⟩) ?_ ?_
              rotate_left
              · intro w_
                go_simp
                with_reducible rfl
              rotate_left
              · simp only [Act.put, List.setIfInBounds_toArray, List.set_cons_zero, List.set_cons_succ, i64_w, i32_w]
                rfl
              refine take_ (i := 7) (N := some 125) (v := ?_) (a' := ?_) #[true, true, true, true, true, true, true, true, false, false, false, false, false, false, false, false, false, false, false, false, false, false, false, false, false, false, false, false, false] rfl rfl (by kernel_rfl) (fun _ _ _ h => h) (Or.inl ⟨by rfl, ?_⟩) HH.out ?_ ?_
              rotate_left
              · rintro w_ s
                have q16 := (HX.out.below (HW.out.trans (s.mono HW.out.size))).isrs; have p16 := (s.cell (World.block_lt_of_cell? wj _ p16)).trans p16; have h2 := (s.cell (World.block_lt_of_cell? wj _ h2)).trans h2; have h3 := (s.cell (World.block_lt_of_cell? wj _ h3)).trans h3; have k2 := (s.cell (World.block_lt_of_cell? wj _ k2)).trans k2; have k3 := (s.cell (World.block_lt_of_cell? wj _ k3)).trans k3
                go_simp
                with_reducible rfl
              rotate_left
              · simp only [Act.put, List.setIfInBounds_toArray, List.set_cons_zero, List.set_cons_succ, i64_w, i32_w]
                rfl
              refine pure_ (i := 8) (N := some 126) (v := ?_) (a' := ?_) #[true, true, true, true, true, true, true, true, true, false, false, false, false, false, false, false, false, false, false, false, false, false, false, false, false, false, false, false, false] rfl rfl (by kernel_rfl) (fun _ _ _ h => h) (Or.inl ⟨by rfl, ?_⟩) ?_ ?_
              rotate_left
              · intro w_
                go_simp
                with_reducible rfl
              rotate_left
              · simp only [Act.put, List.setIfInBounds_toArray, List.set_cons_zero, List.set_cons_succ, i64_w, i32_w]
                rfl
              refine pure_ (i := 9) (N := some 127) (v := ?_) (a' := ?_) #[true, true, true, true, true, true, true, true, true, true, false, false, false, false, false, false, false, false, false, false, false, false, false, false, false, false, false, false, false] rfl rfl (by kernel_rfl) (fun _ _ _ h => h) (Or.inl ⟨by rfl, ?_⟩) ?_ ?_
              rotate_left
              · intro w_
                go_simp
                with_reducible rfl
              rotate_left
              · simp only [Act.put, List.setIfInBounds_toArray, List.set_cons_zero, List.set_cons_succ, i64_w, i32_w]
                rfl
              refine pure_ (i := 10) (N := some 128) (v := ?_) (a' := ?_) #[true, true, true, true, true, true, true, true, true, true, true, false, false, false, false, false, false, false, false, false, false, false, false, false, false, false, false, false, false] rfl rfl (by kernel_rfl) (fun _ _ _ h => h) (Or.inl ⟨by rfl, ?_⟩) ?_ ?_
              rotate_left
              · intro w_
                go_simp
                with_reducible rfl
              rotate_left
              · simp only [Act.put, List.setIfInBounds_toArray, List.set_cons_zero, List.set_cons_succ, i64_w, i32_w]
                rfl
              refine take_ (i := 11) (N := some 129) (v := ?_) (a' := ?_) #[true, true, true, true, true, true, true, true, true, true, true, true, false, false, false, false, false, false, false, false, false, false, false, false, false, false, false, false, false] rfl rfl (by kernel_rfl) (fun _ _ _ h => h) (Or.inl ⟨by rfl, ?_⟩) HH.out ?_ ?_
              rotate_left
              · rintro w_ s
                have q16 := (HX.out.below (HW.out.trans (s.mono HW.out.size))).isrs; have p16 := (s.cell (World.block_lt_of_cell? wj _ p16)).trans p16; have h2 := (s.cell (World.block_lt_of_cell? wj _ h2)).trans h2; have h3 := (s.cell (World.block_lt_of_cell? wj _ h3)).trans h3; have k2 := (s.cell (World.block_lt_of_cell? wj _ k2)).trans k2; have k3 := (s.cell (World.block_lt_of_cell? wj _ k3)).trans k3
                go_simp
                with_reducible rfl
              rotate_left
              · simp only [Act.put, List.setIfInBounds_toArray, List.set_cons_zero, List.set_cons_succ, i64_w, i32_w]
                rfl
              refine pure_ (i := 12) (N := some 130) (v := ?_) (a' := ?_) #[true, true, true, true, true, true, true, true, true, true, true, true, true, false, false, false, false, false, false, false, false, false, false, false, false, false, false, false, false] rfl rfl (by kernel_rfl) (fun _ _ _ h => h) (Or.inl ⟨by rfl, ?_⟩) ?_ ?_
              rotate_left
              · intro w_
                go_simp
                with_reducible rfl
              rotate_left
              · simp only [Act.put, List.setIfInBounds_toArray, List.set_cons_zero, List.set_cons_succ, i64_w, i32_w]
                rfl
              refine pure_ (i := 13) (N := some 131) (v := ?_) (a' := ?_) #[true, true, true, true, true, true, true, true, true, true, true, true, true, true, false, false, false, false, false, false, false, false, false, false, false, false, false, false, false] rfl rfl (by kernel_rfl) (fun _ _ _ h => h) (Or.inl ⟨by rfl, ?_⟩) ?_ ?_
              rotate_left
              · intro w_
                go_simp
                with_reducible rfl
              rotate_left
              · simp only [Act.put, List.setIfInBounds_toArray, List.set_cons_zero, List.set_cons_succ, i64_w, i32_w]
                rfl
              refine pure_ (i := 14) (N := some 132) (v := ?_) (a' := ?_) #[true, true, true, true, true, true, true, true, true, true, true, true, true, true, true, false, false, false, false, false, false, false, false, false, false, false, false, false, false] rfl rfl (by kernel_rfl) (fun _ _ _ h => h) (Or.inl ⟨by rfl, ?_⟩) ?_ ?_
              rotate_left
              · intro w_
                go_simp
                with_reducible rfl
              rotate_left
              · simp only [Act.put, List.setIfInBounds_toArray, List.set_cons_zero, List.set_cons_succ, i64_w, i32_w]
                rfl
              refine take_ (i := 15) (N := some 133) (v := ?_) (a' := ?_) #[true, true, true, true, true, true, true, true, true, true, true, true, true, true, true, true, false, false, false, false, false, false, false, false, false, false, false, false, false] rfl rfl (by kernel_rfl) (fun _ _ _ h => h) (Or.inl ⟨by rfl, ?_⟩) HH.out ?_ ?_
              rotate_left
              · rintro w_ s
                have q16 := (HX.out.below (HW.out.trans (s.mono HW.out.size))).isrs; have p16 := (s.cell (World.block_lt_of_cell? wj _ p16)).trans p16; have h2 := (s.cell (World.block_lt_of_cell? wj _ h2)).trans h2; have h3 := (s.cell (World.block_lt_of_cell? wj _ h3)).trans h3; have k2 := (s.cell (World.block_lt_of_cell? wj _ k2)).trans k2; have k3 := (s.cell (World.block_lt_of_cell? wj _ k3)).trans k3
                go_simp
                with_reducible rfl
              rotate_left
              · simp only [Act.put, List.setIfInBounds_toArray, List.set_cons_zero, List.set_cons_succ, i64_w, i32_w]
                rfl
              refine pure_ (i := 16) (N := some 134) (v := ?_) (a' := ?_) #[true, true, true, true, true, true, true, true, true, true, true, true, true, true, true, true, true, false, false, false, false, false, false, false, false, false, false, false, false] rfl rfl (by kernel_rfl) (fun _ _ _ h => h) (Or.inl ⟨by rfl, ?_⟩) ?_ ?_
              rotate_left
              · intro w_
                go_simp
                with_reducible rfl
              rotate_left
              · simp only [Act.put, List.setIfInBounds_toArray, List.set_cons_zero, List.set_cons_succ, i64_w, i32_w]
                rfl
              refine pure_ (i := 17) (N := some 135) (v := ?_) (a' := ?_) #[true, true, true, true, true, true, true, true, true, true, true, true, true, true, true, true, true, true, false, false, false, false, false, false, false, false, false, false, false] rfl rfl (by kernel_rfl) (fun _ _ _ h => h) (Or.inl ⟨by rfl, ?_⟩) ?_ ?_
              rotate_left
              · intro w_
                go_simp
                with_reducible rfl
              rotate_left
              · simp only [Act.put, List.setIfInBounds_toArray, List.set_cons_zero, List.set_cons_succ, i64_w, i32_w]
                rfl
              refine pure_ (i := 18) (N := some 136) (v := ?_) (a' := ?_) #[true, true, true, true, true, true, true, true, true, true, true, true, true, true, true, true, true, true, true, false, false, false, false, false, false, false, false, false, false] rfl rfl (by kernel_rfl) (fun _ _ _ h => h) (Or.inl ⟨by rfl, ?_⟩) ?_ ?_
              rotate_left
              · intro w_
                go_simp
                with_reducible rfl
              rotate_left
              · simp only [Act.put, List.setIfInBounds_toArray, List.set_cons_zero, List.set_cons_succ, i64_w, i32_w]
                rfl
              refine take_ (i := 19) (N := some 137) (v := ?_) (a' := ?_) #[true, true, true, true, true, true, true, true, true, true, true, true, true, true, true, true, true, true, true, true, false, false, false, false, false, false, false, false, false] rfl rfl (by kernel_rfl) (fun _ _ _ h => h) (Or.inl ⟨by rfl, ?_⟩) HH.out ?_ ?_
              rotate_left
              · rintro w_ s
                have q16 := (HX.out.below (HW.out.trans (s.mono HW.out.size))).isrs; have p16 := (s.cell (World.block_lt_of_cell? wj _ p16)).trans p16; have h2 := (s.cell (World.block_lt_of_cell? wj _ h2)).trans h2; have h3 := (s.cell (World.block_lt_of_cell? wj _ h3)).trans h3; have k2 := (s.cell (World.block_lt_of_cell? wj _ k2)).trans k2; have k3 := (s.cell (World.block_lt_of_cell? wj _ k3)).trans k3
                go_simp
                with_reducible rfl
              rotate_left
              · simp only [Act.put, List.setIfInBounds_toArray, List.set_cons_zero, List.set_cons_succ, i64_w, i32_w]
                rfl
              refine pure_ (i := 20) (N := some 138) (v := ?_) (a' := ?_) #[true, true, true, true, true, true, true, true, true, true, true, true, true, true, true, true, true, true, true, true, true, false, false, false, false, false, false, false, false] rfl rfl (by kernel_rfl) (fun _ _ _ h => h) (Or.inl ⟨by rfl, ?_⟩) ?_ ?_
              rotate_left
              · intro w_
                go_simp
                with_reducible rfl
              rotate_left
              · simp only [Act.put, List.setIfInBounds_toArray, List.set_cons_zero, List.set_cons_succ, i64_w, i32_w]
                rfl
              refine take_ (i := 21) (N := some 139) (v := ?_) (a' := ?_) #[true, true, true, true, true, true, true, true, true, true, true, true, true, true, true, true, true, true, true, true, true, true, false, false, false, false, false, false, false] rfl rfl (by kernel_rfl) (fun _ _ _ h => h) (Or.inl ⟨by rfl, ?_⟩) HH.out ?_ ?_
              rotate_left
              · rintro w_ s
                have q16 := (HX.out.below (HW.out.trans (s.mono HW.out.size))).isrs; have p16 := (s.cell (World.block_lt_of_cell? wj _ p16)).trans p16; have h2 := (s.cell (World.block_lt_of_cell? wj _ h2)).trans h2; have h3 := (s.cell (World.block_lt_of_cell? wj _ h3)).trans h3; have k2 := (s.cell (World.block_lt_of_cell? wj _ k2)).trans k2; have k3 := (s.cell (World.block_lt_of_cell? wj _ k3)).trans k3
                go_simp
                with_reducible rfl
              rotate_left
              · simp only [Act.put, List.setIfInBounds_toArray, List.set_cons_zero, List.set_cons_succ, i64_w, i32_w]
                rfl
              refine pure_ (i := 22) (N := some 140) (v := ?_) (a' := ?_) #[true, true, true, true, true, true, true, true, true, true, true, true, true, true, true, true, true, true, true, true, true, true, true, false, false, false, false, false, false] rfl rfl (by kernel_rfl) (fun _ _ _ h => h) (Or.inl ⟨by rfl, ?_⟩) ?_ ?_
              rotate_left
              · intro w_
                go_simp
                with_reducible rfl
              rotate_left
              · simp only [Act.put, List.setIfInBounds_toArray, List.set_cons_zero, List.set_cons_succ, i64_w, i32_w]
                rfl
              refine pure_ (i := 23) (N := some 141) (v := ?_) (a' := ?_) #[true, true, true, true, true, true, true, true, true, true, true, true, true, true, true, true, true, true, true, true, true, true, true, true, false, false, false, false, false] rfl rfl (by kernel_rfl) (fun _ _ _ h => h) (Or.inl ⟨by rfl, ?_⟩) ?_ ?_
              rotate_left
              · intro w_
                go_simp
                with_reducible rfl
              rotate_left
              · simp only [Act.put, List.setIfInBounds_toArray, List.set_cons_zero, List.set_cons_succ, i64_w, i32_w]
                rfl
              refine pure_ (i := 24) (N := some 142) (v := ?_) (a' := ?_) #[true, true, true, true, true, true, true, true, true, true, true, true, true, true, true, true, true, true, true, true, true, true, true, true, true, false, false, false, false] rfl rfl (by kernel_rfl) (fun _ _ _ h => h) (Or.inl ⟨by rfl, ?_⟩) ?_ ?_
              rotate_left
              · intro w_
                go_simp
                with_reducible rfl
              rotate_left
              · simp only [Act.put, List.setIfInBounds_toArray, List.set_cons_zero, List.set_cons_succ, i64_w, i32_w]
                rfl
              refine take_ (i := 25) (N := some 143) (v := ?_) (a' := ?_) #[true, true, true, true, true, true, true, true, true, true, true, true, true, true, true, true, true, true, true, true, true, true, true, true, true, true, false, false, false] rfl rfl (by kernel_rfl) (fun _ _ _ h => h) (Or.inl ⟨by rfl, ?_⟩) HH.out ?_ ?_
              rotate_left
              · rintro w_ s
                have q16 := (HX.out.below (HW.out.trans (s.mono HW.out.size))).isrs; have p16 := (s.cell (World.block_lt_of_cell? wj _ p16)).trans p16; have h2 := (s.cell (World.block_lt_of_cell? wj _ h2)).trans h2; have h3 := (s.cell (World.block_lt_of_cell? wj _ h3)).trans h3; have k2 := (s.cell (World.block_lt_of_cell? wj _ k2)).trans k2; have k3 := (s.cell (World.block_lt_of_cell? wj _ k3)).trans k3
                go_simp
                with_reducible rfl
              rotate_left
              · simp only [Act.put, List.setIfInBounds_toArray, List.set_cons_zero, List.set_cons_succ, i64_w, i32_w]
                rfl
              refine one_ (i := 26) (N := some 144) #[true, true, true, true, true, true, true, true, true, true, true, true, true, true, true, true, true, true, true, true, true, true, true, true, true, true, true, false, false] rfl rfl (by kernel_rfl) (by decide) (fun K hK => ?_)
              refine goes_ Try.func20 (by kernel_rfl) rfl #[.slice A3 t.f3.length c3, .slice B3 t.f3.length d3] (by rfl) rfl rfl (by first | rfl | (simp only [List.map_toArray, List.map_cons, List.map_nil]; rfl) | simp) ?_
              refine (ints_true A3 B3 c3 d3 t.f3 wv (Kd.C_below HG3.out HH.out) (Kd.C_below HF3.out HH.out)).mono ?_
              rintro e wb ⟨rfl, B2⟩
              refine ⟨_, rfl, ?_⟩
              have HH2 := Aside0.mk (HH.out.trans (B2.mono HH.out.size))
              clear HH B2
              have HH := HH2
              clear HH2
              refine hK.out _ _ HH.out (fun _ => ?_)
              clear hK K
              refine norm_ (a' := ?_) ?_ ?_
              rotate_left
              · show Act.put _ (some 144) _ = _
                simp only [Act.put, List.setIfInBounds_toArray, List.set_cons_zero, List.set_cons_succ, i64_w, i32_w]
                rfl
              refine pure_ (i := 27) (N := some 145) (v := ?_) (a' := ?_) #[true, true, true, true, true, true, true, true, true, true, true, true, true, true, true, true, true, true, true, true, true, true, true, true, true, true, true, true, false] rfl rfl (by kernel_rfl) (fun _ _ _ h => h) (Or.inl ⟨by rfl, ?_⟩) ?_ ?_
              rotate_left
              · intro w_
                go_simp
                with_reducible rfl
              rotate_left
              · simp only [Act.put, List.setIfInBounds_toArray, List.set_cons_zero, List.set_cons_succ, i64_w, i32_w]
                rfl
              refine pure_ (i := 28) (N := some 146) (v := ?_) (a' := ?_) #[true, true, true, true, true, true, true, true, true, true, true, true, true, true, true, true, true, true, true, true, true, true, true, true, true, true, true, true, true] rfl rfl (by kernel_rfl) (fun _ _ _ h => h) (Or.inl ⟨by rfl, ?_⟩) ?_ ?_
              rotate_left
              · intro w_
                go_simp
                with_reducible rfl
              rotate_left
              · simp only [Act.put, List.setIfInBounds_toArray, List.set_cons_zero, List.set_cons_succ, i64_w, i32_w]
                rfl
              refine done_ (by kernel_rfl) ?_
              go_wp2_with fail
              go_roundw
              case rel => exact ⟨k + 1, HLT.out, by go_num, ⟨HW.out.trans (HH.out.mono HW.out.size)⟩⟩
              case measure => have := HLT.out; simp [intOf]; omega
            · have hd : decide ((k : Int) < (is.length : Int)) = false := decide_eq_false (by omega)
              go_wp2_with fail
              go_ret
              exact ⟨rfl, HB0.out.trans (HW.out.mono HB0.out.size)⟩
end Go.Proofs.Ytflkbheginhfiaa.XA
/- the document's Copy of a configuration: the rows of its answer are its own. -/
namespace Go.Proofs.Ytflkbheginhfiaa.XA
set_option linter.unusedVariables false
set_option linter.unusedSimpArgs false
open Go.RowKit Go.WideMaps Go.Maps Go.Proofs.YtflkbheginhfiaaW.PrintWords Go.Proofs.YtflkbheginhfiaaW.PrintLast Go.Proofs.YtflkbheginhfiaaW.PrintMore
def cpArr (b : Bool) (VT VR VI : Value) : Array Value := #[.string ⟨#[]⟩, .string ⟨#[]⟩, .bool false, .bool false, .bool false, .bool false, .bool false, .bool false, .bool false, .bool b, .slice none 0 0, VT, VR, .slice none 0 0, .slice none 0 0, .slice none 0 0, VI, .slice none 0 0]
def cpT (t : S64) : S64 := ⟨t.f0, t.f1, t.f2, 0, [], t.f5, [], []⟩
def cpI (t : S66) : S66 := ⟨t.f0, 0, t.f2, t.f3, []⟩
/-- what stands while the copy is made -/
structure Cp (x : CV) (AT : Option Addr) (cT : Nat) (AR : Option Addr) (cR : Nat) (AI : Option Addr) (cI : Nat) (nT nR nI : Nat) (b : Bool) (w0 : World) (VT VR VI : Value) (lT : List S64) (lR : List S73) (lI : List S66) (w : World) : Prop where
  box : BoxAt w w0.heap.size x AT cT AR cR AI cI nT nR nI
  zero : w.heap[w0.heap.size + 1]? = some (.cells (cpArr false (.slice none 0 0) (.slice none 0 0) (.slice none 0 0)) 36 (0, 0))
  d : w.heap[w0.heap.size + 1 + 1]? = some (.cells (cpArr b VT VR VI) 36 (0, 0))
  t : k64.R 64 w w0.heap.size (fun _ => True) VT lT
  r : k73.R 73 w w0.heap.size (fun _ => True) VR lR
  i : k66.R 66 w w0.heap.size (fun _ => True) VI lI
  bel : Below w0.heap.size w0 w
section
variable {x : CV} {AT : Option Addr} {cT : Nat} {AR : Option Addr} {cR : Nat} {AI : Option Addr} {cI : Nat} {nT nR nI : Nat} {b : Bool} {w0 w w1 : World} {VT VR VI : Value} {lT : List S64} {lR : List S73} {lI : List S66}
theorem Cp.below (h : Cp x AT cT AR cR AI cI nT nR nI b w0 VT VR VI lT lR lI w) (hB : Below w.heap.size w w1) : Cp x AT cT AR cR AI cI nT nR nI b w0 VT VR VI lT lR lI w1 :=
  ⟨h.box.below hB, (hB.block _ (blk_lt h.zero)).trans h.zero, (hB.block _ (blk_lt h.d)).trans h.d, Kd.R_below h.t hB, Kd.R_below h.r hB, Kd.R_below h.i hB, h.bel.trans (hB.mono h.bel.size)⟩
theorem Cp.cells (h : Cp x AT cT AR cR AI cI nT nR nI b w0 VT VR VI lT lR lI w) : w.cell? ⟨w0.heap.size + 1 + 1, 11, none⟩ = some VT ∧ w.cell? ⟨w0.heap.size + 1 + 1, 12, none⟩ = some VR ∧ w.cell? ⟨w0.heap.size + 1 + 1, 16, none⟩ = some VI ∧ ∀ i, w.frozen? ⟨w0.heap.size + 1 + 1, i, none⟩ = false := by
  have hc := h.d
  unfold cpArr at hc
  exact ⟨by simp [World.cell?, hc], by simp [World.cell?, hc], by simp [World.cell?, hc], fun i => by simp [World.frozen?, hc]⟩
/-- the three boxes stay where a row of another type grows and the copy's box is written -/
theorem boxes_set (h : Cp x AT cT AR cR AI cI nT nR nI b w0 VT VR VI lT lR lI w) {row : Option Nat} (hrow : ∀ k, row = some k → ∃ cs q, w.heap[k]? = some (.cells cs q (0, 0)) ∧ q ≠ 36) (hg : w.grownBy w1 row) (j : Nat) (v1 : Value) :
    BoxAt (w1.setCell ⟨w0.heap.size + 1 + 1, j, none⟩ v1) w0.heap.size x AT cT AR cR AI cI nT nR nI ∧ (w1.setCell ⟨w0.heap.size + 1 + 1, j, none⟩ v1).heap[w0.heap.size + 1]? = some (.cells (cpArr false (.slice none 0 0) (.slice none 0 0) (.slice none 0 0)) 36 (0, 0)) ∧ w1.heap[w0.heap.size + 1 + 1]? = some (.cells (cpArr b VT VR VI) 36 (0, 0)) := by
  have hne : ∀ k cs, w.heap[k]? = some (.cells cs 36 (0, 0)) → some k ≠ row := fun k cs hk e => by
    obtain ⟨cs2, q, h1, h2⟩ := hrow k e.symm
    rw [hk] at h1
    injection h1 with h1
    injection h1 with _ h1
    exact h2 h1.symm
  refine ⟨?_, ?_, (hg.block _ (blk_lt h.d) (hne _ _ h.d)).trans h.d⟩
  · exact (Below.heap_setCell w1 ⟨w0.heap.size + 1 + 1, j, none⟩ v1 w0.heap.size (by show w0.heap.size ≠ w0.heap.size + 1 + 1; omega)).trans ((hg.block _ h.box.lt (hne _ _ h.box)).trans h.box)
  · exact (Below.heap_setCell w1 ⟨w0.heap.size + 1 + 1, j, none⟩ v1 (w0.heap.size + 1) (by show w0.heap.size + 1 ≠ w0.heap.size + 1 + 1; omega)).trans ((hg.block _ (blk_lt h.zero) (hne _ _ h.zero)).trans h.zero)
theorem Cp.appT (h : Cp x AT cT AR cR AI cI nT nR nI b w0 VT VR VI lT lR lI w) (v1 : Value) (lT1 : List S64) (hr : k64.R 64 w1 w0.heap.size (fun _ => True) v1 lT1) (hb : Below w0.heap.size w0 w1) (hg : w.grownBy w1 VT.ownBlock) :
    Cp x AT cT AR cR AI cI nT nR nI b w0 v1 VR VI lT1 lR lI (w1.setCell ⟨w0.heap.size + 1 + 1, 11, none⟩ v1) := by
  have hty := Kd.R_typed h.t
  obtain ⟨b1, b2, b3⟩ := boxes_set h (fun k hk => by obtain ⟨cs, hc⟩ := hty k hk; exact ⟨cs, 64, hc, by decide⟩) hg 11 v1
  have hr2 := Kd.R_grown (Kd.R_apart' h.r hty (by decide)) hg (fun k hk => hk.2)
  have hi2 := Kd.R_grown (Kd.R_apart' h.i hty (by decide)) hg (fun k hk => hk.2)
  refine ⟨b1, b2, ?_, Kd.R_mono (Kd.R_far (p := ⟨w0.heap.size + 1 + 1, 11, none⟩) (Kd.R_types hr b3 (by decide)) (fun _ hk => hk.2) v1) (fun _ _ => trivial), Kd.R_mono (Kd.R_far (p := ⟨w0.heap.size + 1 + 1, 11, none⟩) (Kd.R_types hr2 b3 (by decide)) (fun _ hk => hk.2) v1) (fun _ _ => trivial), Kd.R_mono (Kd.R_far (p := ⟨w0.heap.size + 1 + 1, 11, none⟩) (Kd.R_types hi2 b3 (by decide)) (fun _ hk => hk.2) v1) (fun _ _ => trivial), hb.setCell (by show w0.heap.size ≤ w0.heap.size + 1 + 1; omega) v1⟩
  simp [World.setCell, Array.getElem?_modify, b3, cpArr]
theorem Cp.appR (h : Cp x AT cT AR cR AI cI nT nR nI b w0 VT VR VI lT lR lI w) (v1 : Value) (lR1 : List S73) (hr : k73.R 73 w1 w0.heap.size (fun _ => True) v1 lR1) (hb : Below w0.heap.size w0 w1) (hg : w.grownBy w1 VR.ownBlock) :
    Cp x AT cT AR cR AI cI nT nR nI b w0 VT v1 VI lT lR1 lI (w1.setCell ⟨w0.heap.size + 1 + 1, 12, none⟩ v1) := by
  have hty := Kd.R_typed h.r
  obtain ⟨b1, b2, b3⟩ := boxes_set h (fun k hk => by obtain ⟨cs, hc⟩ := hty k hk; exact ⟨cs, 73, hc, by decide⟩) hg 12 v1
  have hr2 := Kd.R_grown (Kd.R_apart' h.t hty (by decide)) hg (fun k hk => hk.2)
  have hi2 := Kd.R_grown (Kd.R_apart' h.i hty (by decide)) hg (fun k hk => hk.2)
  refine ⟨b1, b2, ?_, Kd.R_mono (Kd.R_far (p := ⟨w0.heap.size + 1 + 1, 12, none⟩) (Kd.R_types hr2 b3 (by decide)) (fun _ hk => hk.2) v1) (fun _ _ => trivial), Kd.R_mono (Kd.R_far (p := ⟨w0.heap.size + 1 + 1, 12, none⟩) (Kd.R_types hr b3 (by decide)) (fun _ hk => hk.2) v1) (fun _ _ => trivial), Kd.R_mono (Kd.R_far (p := ⟨w0.heap.size + 1 + 1, 12, none⟩) (Kd.R_types hi2 b3 (by decide)) (fun _ hk => hk.2) v1) (fun _ _ => trivial), hb.setCell (by show w0.heap.size ≤ w0.heap.size + 1 + 1; omega) v1⟩
  simp [World.setCell, Array.getElem?_modify, b3, cpArr]
theorem Cp.appI (h : Cp x AT cT AR cR AI cI nT nR nI b w0 VT VR VI lT lR lI w) (v1 : Value) (lI1 : List S66) (hr : k66.R 66 w1 w0.heap.size (fun _ => True) v1 lI1) (hb : Below w0.heap.size w0 w1) (hg : w.grownBy w1 VI.ownBlock) :
    Cp x AT cT AR cR AI cI nT nR nI b w0 VT VR v1 lT lR lI1 (w1.setCell ⟨w0.heap.size + 1 + 1, 16, none⟩ v1) := by
  have hty := Kd.R_typed h.i
  obtain ⟨b1, b2, b3⟩ := boxes_set h (fun k hk => by obtain ⟨cs, hc⟩ := hty k hk; exact ⟨cs, 66, hc, by decide⟩) hg 16 v1
  have hr2 := Kd.R_grown (Kd.R_apart' h.t hty (by decide)) hg (fun k hk => hk.2)
  have hi2 := Kd.R_grown (Kd.R_apart' h.r hty (by decide)) hg (fun k hk => hk.2)
  refine ⟨b1, b2, ?_, Kd.R_mono (Kd.R_far (p := ⟨w0.heap.size + 1 + 1, 16, none⟩) (Kd.R_types hr2 b3 (by decide)) (fun _ hk => hk.2) v1) (fun _ _ => trivial), Kd.R_mono (Kd.R_far (p := ⟨w0.heap.size + 1 + 1, 16, none⟩) (Kd.R_types hi2 b3 (by decide)) (fun _ hk => hk.2) v1) (fun _ _ => trivial), Kd.R_mono (Kd.R_far (p := ⟨w0.heap.size + 1 + 1, 16, none⟩) (Kd.R_types hr b3 (by decide)) (fun _ hk => hk.2) v1) (fun _ _ => trivial), hb.setCell (by show w0.heap.size ≤ w0.heap.size + 1 + 1; omega) v1⟩
  simp [World.setCell, Array.getElem?_modify, b3, cpArr]
end
set_option maxRecDepth 1000000 in
set_option maxHeartbeats 4000000 in
theorem copy_start (x : CV) (AT : Option Addr) (cT : Nat) (AR : Option Addr) (cR : Nat) (AI : Option Addr) (cI : Nat) (nT nR nI : Nat) (w : World) :
    Cp x AT cT AR cR AI cI nT nR nI x.b9 w (.slice none 0 0) (.slice none 0 0) (.slice none 0 0) [] [] [] (((w.alloc (.cells (x.arr AT cT AR cR AI cI nT nR nI) 36)).alloc (.cells (cpArr false (.slice none 0 0) (.slice none 0 0) (.slice none 0 0)) 36)).alloc (.cells (cpArr x.b9 (.slice none 0 0) (.slice none 0 0) (.slice none 0 0)) 36)) := by
  have h1 := BoxAt.made w x AT cT AR cR AI cI nT nR nI
  have h2 := heap_alloc_new (w.alloc (.cells (x.arr AT cT AR cR AI cI nT nR nI) 36)) (.cells (cpArr false (.slice none 0 0) (.slice none 0 0) (.slice none 0 0)) 36)
  have h3 := heap_alloc_new ((w.alloc (.cells (x.arr AT cT AR cR AI cI nT nR nI) 36)).alloc (.cells (cpArr false (.slice none 0 0) (.slice none 0 0) (.slice none 0 0)) 36)) (.cells (cpArr x.b9 (.slice none 0 0) (.slice none 0 0) (.slice none 0 0)) 36)
  rw [World.size_alloc] at h2
  rw [World.size_alloc, World.size_alloc] at h3
  have hb2 : ∀ (v : World) (o : Obj), Below v.heap.size v (v.alloc o) := fun v o => (Below.refl _ _).alloc (Nat.le_refl _) o
  refine ⟨(h1.below (hb2 _ _)).below (hb2 _ _), ?_, h3, Kd.R_nil _ _ _ _ _, Kd.R_nil _ _ _ _ _, Kd.R_nil _ _ _ _ _, ?_⟩
  · exact ((hb2 _ _).block _ (blk_lt h2)).trans h2
  · exact (((hb2 _ _).trans ((hb2 _ _).mono (by rw [World.size_alloc]; omega))).trans ((hb2 _ _).mono (by rw [World.size_alloc, World.size_alloc]; omega)))
theorem task_cells5 {w : World} {A : Option Addr} {ts : List S64} (h : k64.C w A ts.length ts) (k : Nat) (hk : k < ts.length) :
    ∃ ad A4 c4 A5 c5 A6 c6 A7 c7, A = some ad ∧ TaskAt w ad k (ts.getD k z64) A4 c4 A5 c5 A6 c6 A7 c7 ∧ (Kd.int .i64).C w A5 (ts.getD k z64).f5.length (ts.getD k z64).f5 := by
  obtain ⟨ad, A4, c4, A5, c5, A6, c6, A7, c7, e, h1, _, h2⟩ := task_cells h k hk
  exact ⟨ad, A4, c4, A5, c5, A6, c6, A7, c7, e, h1, h2⟩
theorem take_snocm {α β : Type} (f : α → β) (l : List α) (z : α) (k : Nat) (hk : k < l.length) : (l.take (k + 1)).map f = (l.take k).map f ++ [f (l.getD k z)] := by
  rw [List.take_succ_eq_append_getElem hk, List.map_append]
  simp [List.getD, hk]
theorem take_len {α β : Type} (f : α → β) (l : List α) (k : Nat) (hk : k ≤ l.length) : ((l.take k).map f).length = k := by
  simp; omega
theorem take_len0 {α : Type} (l : List α) (k : Nat) (hk : k ≤ l.length) : (l.take k).length = k := by
  simp; omega
theorem Cp.dcell {x : CV} {AT : Option Addr} {cT : Nat} {AR : Option Addr} {cR : Nat} {AI : Option Addr} {cI : Nat} {nT nR nI : Nat} {b : Bool} {w0 w w1 : World} {VT VR VI : Value} {lT : List S64} {lR : List S73} {lI : List S66} (h : Cp x AT cT AR cR AI cI nT nR nI b w0 VT VR VI lT lR lI w) {row : Option Nat} (hrow : ∀ k, row = some k → ∃ cs q, w.heap[k]? = some (.cells cs q (0, 0)) ∧ q ≠ 36) (hg : w.grownBy w1 row) :
    w1.cell? ⟨w0.heap.size + 1 + 1, 11, none⟩ = some VT ∧ w1.cell? ⟨w0.heap.size + 1 + 1, 12, none⟩ = some VR ∧ w1.cell? ⟨w0.heap.size + 1 + 1, 16, none⟩ = some VI ∧ ∀ i, w1.frozen? ⟨w0.heap.size + 1 + 1, i, none⟩ = false := by
  have hc := (boxes_set h hrow hg 0 (.bool false)).2.2
  unfold cpArr at hc
  exact ⟨by simp [World.cell?, hc], by simp [World.cell?, hc], by simp [World.cell?, hc], fun i => by simp [World.frozen?, hc]⟩
theorem row_ty {α : Type} {d : Kd α} {e : Nat} {w : World} {b : Nat} {ok : Nat → Prop} {v : Value} {xs : List α} (h : d.R e w b ok v xs) (he : e ≠ 36) : ∀ k, v.ownBlock = some k → ∃ cs q, w.heap[k]? = some (.cells cs q (0, 0)) ∧ q ≠ 36 := fun k hk => by
  obtain ⟨cs, hc⟩ := Kd.R_typed h k hk
  exact ⟨cs, e, hc, he⟩
section
variable {ops : Array Oper} {rest : List Oper} {o : Oper} {a : Act} {Q : Exit → Act → World → Prop}
theorem store36 {w : World} {B : Nat} {old : Array Value} (hg : w.heap[B]? = some (.cells old 36 (0, 0))) (hold : old.size = 18) (cs : Array Value) (hcs : cs.size = 18) (h1 : cs.all (·.oneCell') = true) (hgd : o.guard = none) (x y : Operand) (ho : o.op = .store 36 x y) (hx : a.eval x = .pointer (some ⟨B, 0, none⟩)) (hy : a.eval y = .agg cs)
    (h : wpList Try.prog ops Q rest (a.put o.dst undef) (w.setRow B cs)) : wpList Try.prog ops Q (o :: rest) a w :=
  wpList_plain hgd fun _ hK => wp_store_row 36 x y ho B cs hx hy 36 old hg (by rw [hcs]; kernel_rfl) (by omega) h1 (hK _ _ h)
end
set_option maxRecDepth 1000000 in
set_option maxHeartbeats 4000000 in
theorem copy_calls (x : CV) (AT : Option Addr) (cT : Nat) (AR : Option Addr) (cR : Nat) (AI : Option Addr) (cI : Nat) (ts : List S64) (rs : List S73) (is : List S66) (w : World) (g : Good AT cT AR cR AI cI ts rs is w) (htb : ts.length * 136 ≤ 140737488355328) (hib : is.length * 80 ≤ 140737488355328) (hts : ∀ k, k < ts.length → (ts.getD k z64).f5.length ≤ 17592186044416) (his : ∀ k, k < is.length → (is.getD k z66).f3.length ≤ 17592186044416) :
    Calls Try.prog 10 #[.agg #[.string x.s0, .string x.s1, .bool x.b2, .bool x.b3, .bool x.b4, .bool x.b5, .bool x.b6, .bool x.b7, .bool x.b8, .bool x.b9, .slice x.A10 x.n10 x.c10, .slice AT ts.length cT, .slice AR rs.length cR, .slice x.A13 x.n13 x.c13, .slice x.A14 x.n14 x.c14, .slice x.A15 x.n15 x.c15, .slice AI is.length cI, .slice x.A17 x.n17 x.c17]] w fun e w' => Below w.heap.size w w' ∧ ∃ AT2 dT AR2 dR AI2 dI, e = .returned (.agg (cpArr x.b9 (.slice AT2 ts.length dT) (.slice AR2 rs.length dR) (.slice AI2 is.length dI))) ∧ k64.R 64 w' w.heap.size (fun _ => True) (.slice AT2 ts.length dT) (ts.map cpT) ∧ k73.R 73 w' w.heap.size (fun _ => True) (.slice AR2 rs.length dR) rs ∧ k66.R 66 w' w.heap.size (fun _ => True) (.slice AI2 is.length dI) (is.map cpI) := by
  have HG := Aside0.mk g
  have HTS := Aside0.mk hts
  have HIS := Aside0.mk his
  have HTB := Aside0.mk htb
  have HIB := Aside0.mk hib
  have HC1 := Aside0.mk (copy_start x AT cT AR cR AI cI ts.length rs.length is.length w)
  unfold CV.arr cpArr at HC1
  have htz := g.t
  have hrz := g.r
  have hiz := g.i
  clear g hts his htb hib
  go_enter Try.func10, Try.ntmps10
  go_wp2_with fail
  generalize ((w.alloc (.cells #[.string x.s0, .string x.s1, .bool x.b2, .bool x.b3, .bool x.b4, .bool x.b5, .bool x.b6, .bool x.b7, .bool x.b8, .bool x.b9, .slice x.A10 x.n10 x.c10, .slice AT ts.length cT, .slice AR rs.length cR, .slice x.A13 x.n13 x.c13, .slice x.A14 x.n14 x.c14, .slice x.A15 x.n15 x.c15, .slice AI is.length cI, .slice x.A17 x.n17 x.c17] 36)).alloc (.cells #[.string ⟨#[]⟩, .string ⟨#[]⟩, .bool false, .bool false, .bool false, .bool false, .bool false, .bool false, .bool false, .bool false, .slice none 0 0, .slice none 0 0, .slice none 0 0, .slice none 0 0, .slice none 0 0, .slice none 0 0, .slice none 0 0, .slice none 0 0] 36)).alloc (.cells #[.string ⟨#[]⟩, .string ⟨#[]⟩, .bool false, .bool false, .bool false, .bool false, .bool false, .bool false, .bool false, .bool x.b9, .slice none 0 0, .slice none 0 0, .slice none 0 0, .slice none 0 0, .slice none 0 0, .slice none 0 0, .slice none 0 0, .slice none 0 0] 36) = w0 at *
  go_loopw [4] (fun i wr => ∃ (k : Nat) (VT : Value), k ≤ ts.length ∧ i = .int .i64 k ∧ Aside0 (Cp x AT cT AR cR AI cI ts.length rs.length is.length x.b9 w VT (.slice none 0 0) (.slice none 0 0) ((ts.take k).map cpT) [] [] wr)) (fun i _ => ts.length - (intOf i).toNat)
  case atStart => exact ⟨0, _, by omega, rfl, HC1⟩
  case round =>
    clear HC1
    obtain ⟨k, VT, hk, rfl, HS0⟩ := hrel
    have q11 := HS0.out.box.tasks
    by_cases hlt : k < ts.length
    · have hd : decide ((k : Int) < (ts.length : Int)) = true := decide_eq_true (by omega)
      have HLT := Aside0.mk (Nat.succ_le_of_lt hlt)
      obtain ⟨ad, A4, c4, A5, c5, A6, c6, A7, c7, e, hta, g5⟩ := task_cells5 (HG.out.cfg.below HS0.out.bel).t k hlt
      subst e
      have HL5 := Aside0.mk (HTS.out k hlt)
      have HTK := Aside0.mk (take_snocm cpT ts z64 k hlt)
      have HLN := Aside0.mk (take_len cpT ts k hk)
      have HTA := Aside0.mk hta
      have HG5 := Aside0.mk g5
      have HKB := Aside0.mk (show (k + 1) * 136 ≤ 140737488355328 by have := HTB.out; omega)
      clear hta g5
      generalize ts.getD k z64 = t at *
      generalize (ts.take k).map cpT = lT at *
      have hba : Below wr.heap.size wr (wr.alloc (.cells #[.string t.f0, .int .i64 t.f1, .bool t.f2, .int .i64 t.f3, .slice A4 t.f4.length c4, .slice A5 t.f5.length c5, .slice A6 t.f6.length c6, .slice A7 t.f7.length c7] 64)) := (Below.refl _ _).alloc (Nat.le_refl _) _
      have HSa := Aside0.mk (HS0.out.below hba)
      have HGa := Aside0.mk (Kd.C_below HG5.out hba)
      have HY := Aside0.mk (heap_alloc_new wr (.cells #[.string t.f0, .int .i64 t.f1, .bool t.f2, .int .i64 t.f3, .slice A4 t.f4.length c4, .slice A5 t.f5.length c5, .slice A6 t.f6.length c6, .slice A7 t.f7.length c7] 64))
      clear hba
      go_wp2_with (first | ((with_reducible refine gate_dst (N := 27) rfl ?_); refine load64 HTA.out rfl (.tmp 26) rfl rfl ?_))
      clear HS0 q11 HG5 HTA
      generalize wr.alloc (.cells #[.string t.f0, .int .i64 t.f1, .bool t.f2, .int .i64 t.f3, .slice A4 t.f4.length c4, .slice A5 t.f5.length c5, .slice A6 t.f6.length c6, .slice A7 t.f7.length c7] 64) = wo at *
      generalize wr.heap.size = Bt at *
      refine start_ (n := 17) (S := fun w_ => Below wo.heap.size wo w_) (ds := [14, 16]) #[false, false, false, false, false, false, false, false, false, false, false, false, false, false, false, false, false] (by kernel_rfl) rfl rfl (drew_below wo) (fun hHeld => ?_)
      have HH := Aside0.mk hHeld
      clear hHeld
      generalize wo.drew = wv at HH ⊢
      refine pure_ (i := 0) (N := some 28) (v := ?_) (a' := ?_) #[true, false, false, false, false, false, false, false, false, false, false, false, false, false, false, false, false] rfl rfl (by kernel_rfl) (fun _ _ _ h => h) (Or.inl ⟨by rfl, ?_⟩) ?_ ?_
      rotate_left
      · intro w_
        go_simp
        with_reducible rfl
      rotate_left
      · simp only [Act.put, List.setIfInBounds_toArray, List.set_cons_zero, List.set_cons_succ, i64_w, i32_w]
        rfl
      refine take_ (i := 1) (N := some 29) (v := ?_) (a' := ?_) #[true, true, false, false, false, false, false, false, false, false, false, false, false, false, false, false, false] rfl rfl (by kernel_rfl) (fun _ _ _ h => h) (Or.inl ⟨by rfl, ?_⟩) HH.out ?_ ?_
      rotate_left
      · rintro w_ s
        obtain ⟨p11, _⟩ := (HSa.out.below s).cells; have yy := (s.block _ (blk_lt HY.out)).trans HY.out; have y0 : w_.cell? ⟨Bt, 0, none⟩ = some (.string t.f0) := (by simp [World.cell?, yy]); have y1 : w_.cell? ⟨Bt, 1, none⟩ = some (.int .i64 t.f1) := (by simp [World.cell?, yy]); have y2 : w_.cell? ⟨Bt, 2, none⟩ = some (.bool t.f2) := (by simp [World.cell?, yy]); have y5 : w_.cell? ⟨Bt, 5, none⟩ = some (.slice A5 t.f5.length c5) := (by simp [World.cell?, yy]); clear yy
        go_simp
        with_reducible rfl
      rotate_left
      · simp only [Act.put, List.setIfInBounds_toArray, List.set_cons_zero, List.set_cons_succ, i64_w, i32_w]
        rfl
      refine pure_ (i := 2) (N := some 30) (v := ?_) (a' := ?_) #[true, true, true, false, false, false, false, false, false, false, false, false, false, false, false, false, false] rfl rfl (by kernel_rfl) (fun _ _ _ h => h) (Or.inl ⟨by rfl, ?_⟩) ?_ ?_
      rotate_left
      · intro w_
        go_simp
        with_reducible rfl
      rotate_left
      · simp only [Act.put, List.setIfInBounds_toArray, List.set_cons_zero, List.set_cons_succ, i64_w, i32_w]
        rfl
      refine take_ (i := 3) (N := some 31) (v := ?_) (a' := ?_) #[true, true, true, true, false, false, false, false, false, false, false, false, false, false, false, false, false] rfl rfl (by kernel_rfl) (fun _ _ _ h => h) (Or.inl ⟨by rfl, ?_⟩) HH.out ?_ ?_
      rotate_left
      · rintro w_ s
        obtain ⟨p11, _⟩ := (HSa.out.below s).cells; have yy := (s.block _ (blk_lt HY.out)).trans HY.out; have y0 : w_.cell? ⟨Bt, 0, none⟩ = some (.string t.f0) := (by simp [World.cell?, yy]); have y1 : w_.cell? ⟨Bt, 1, none⟩ = some (.int .i64 t.f1) := (by simp [World.cell?, yy]); have y2 : w_.cell? ⟨Bt, 2, none⟩ = some (.bool t.f2) := (by simp [World.cell?, yy]); have y5 : w_.cell? ⟨Bt, 5, none⟩ = some (.slice A5 t.f5.length c5) := (by simp [World.cell?, yy]); clear yy
        go_simp
        with_reducible rfl
      rotate_left
      · simp only [Act.put, List.setIfInBounds_toArray, List.set_cons_zero, List.set_cons_succ, i64_w, i32_w]
        rfl
      refine pure_ (i := 4) (N := some 32) (v := ?_) (a' := ?_) #[true, true, true, true, true, false, false, false, false, false, false, false, false, false, false, false, false] rfl rfl (by kernel_rfl) (fun _ _ _ h => h) (Or.inl ⟨by rfl, ?_⟩) ?_ ?_
      rotate_left
      · intro w_
        go_simp
        with_reducible rfl
      rotate_left
      · simp only [Act.put, List.setIfInBounds_toArray, List.set_cons_zero, List.set_cons_succ, i64_w, i32_w]
        rfl
      refine take_ (i := 5) (N := some 33) (v := ?_) (a' := ?_) #[true, true, true, true, true, true, false, false, false, false, false, false, false, false, false, false, false] rfl rfl (by kernel_rfl) (fun _ _ _ h => h) (Or.inl ⟨by rfl, ?_⟩) HH.out ?_ ?_
      rotate_left
      · rintro w_ s
        obtain ⟨p11, _⟩ := (HSa.out.below s).cells; have yy := (s.block _ (blk_lt HY.out)).trans HY.out; have y0 : w_.cell? ⟨Bt, 0, none⟩ = some (.string t.f0) := (by simp [World.cell?, yy]); have y1 : w_.cell? ⟨Bt, 1, none⟩ = some (.int .i64 t.f1) := (by simp [World.cell?, yy]); have y2 : w_.cell? ⟨Bt, 2, none⟩ = some (.bool t.f2) := (by simp [World.cell?, yy]); have y5 : w_.cell? ⟨Bt, 5, none⟩ = some (.slice A5 t.f5.length c5) := (by simp [World.cell?, yy]); clear yy
        go_simp
        with_reducible rfl
      rotate_left
      · simp only [Act.put, List.setIfInBounds_toArray, List.set_cons_zero, List.set_cons_succ, i64_w, i32_w]
        rfl
      refine pure_ (i := 6) (N := some 34) (v := ?_) (a' := ?_) #[true, true, true, true, true, true, true, false, false, false, false, false, false, false, false, false, false] rfl rfl (by kernel_rfl) (fun _ _ _ h => h) (Or.inl ⟨by rfl, ?_⟩) ?_ ?_
      rotate_left
      · intro w_
        go_simp
        with_reducible rfl
      rotate_left
      · simp only [Act.put, List.setIfInBounds_toArray, List.set_cons_zero, List.set_cons_succ, i64_w, i32_w]
        rfl
      refine take_ (i := 7) (N := some 35) (v := ?_) (a' := ?_) #[true, true, true, true, true, true, true, true, false, false, false, false, false, false, false, false, false] rfl rfl (by kernel_rfl) (fun _ _ _ h => h) (Or.inl ⟨by rfl, ?_⟩) HH.out ?_ ?_
      rotate_left
      · rintro w_ s
        obtain ⟨p11, _⟩ := (HSa.out.below s).cells; have yy := (s.block _ (blk_lt HY.out)).trans HY.out; have y0 : w_.cell? ⟨Bt, 0, none⟩ = some (.string t.f0) := (by simp [World.cell?, yy]); have y1 : w_.cell? ⟨Bt, 1, none⟩ = some (.int .i64 t.f1) := (by simp [World.cell?, yy]); have y2 : w_.cell? ⟨Bt, 2, none⟩ = some (.bool t.f2) := (by simp [World.cell?, yy]); have y5 : w_.cell? ⟨Bt, 5, none⟩ = some (.slice A5 t.f5.length c5) := (by simp [World.cell?, yy]); clear yy
        go_simp
        with_reducible rfl
      rotate_left
      · simp only [Act.put, List.setIfInBounds_toArray, List.set_cons_zero, List.set_cons_succ, i64_w, i32_w]
        rfl
      refine pure_ (i := 8) (N := some 36) (v := ?_) (a' := ?_) #[true, true, true, true, true, true, true, true, true, false, false, false, false, false, false, false, false] rfl rfl (by kernel_rfl) (fun _ _ _ h => h) (Or.inl ⟨by rfl, ?_⟩) ?_ ?_
      rotate_left
      · intro w_
        go_simp
        with_reducible rfl
      rotate_left
      · simp only [Act.put, List.setIfInBounds_toArray, List.set_cons_zero, List.set_cons_succ, i64_w, i32_w]
        rfl
      refine pure_ (i := 9) (N := some 37) (v := ?_) (a' := ?_) #[true, true, true, true, true, true, true, true, true, true, false, false, false, false, false, false, false] rfl rfl (by kernel_rfl) (fun _ _ _ h => h) (Or.inl ⟨by rfl, ?_⟩) ?_ ?_
      rotate_left
      · intro w_
        go_simp
        with_reducible rfl
      rotate_left
      · simp only [Act.put, List.setIfInBounds_toArray, List.set_cons_zero, List.set_cons_succ, i64_w, i32_w]
        rfl
      refine take_ (i := 10) (N := some 38) (v := ?_) (a' := ?_) #[true, true, true, true, true, true, true, true, true, true, true, false, false, false, false, false, false] rfl rfl (by kernel_rfl) (fun _ _ _ h => h) (Or.inl ⟨by rfl, ?_⟩) HH.out ?_ ?_
      rotate_left
      · rintro w_ s
        obtain ⟨p11, _⟩ := (HSa.out.below s).cells; have yy := (s.block _ (blk_lt HY.out)).trans HY.out; have y0 : w_.cell? ⟨Bt, 0, none⟩ = some (.string t.f0) := (by simp [World.cell?, yy]); have y1 : w_.cell? ⟨Bt, 1, none⟩ = some (.int .i64 t.f1) := (by simp [World.cell?, yy]); have y2 : w_.cell? ⟨Bt, 2, none⟩ = some (.bool t.f2) := (by simp [World.cell?, yy]); have y5 : w_.cell? ⟨Bt, 5, none⟩ = some (.slice A5 t.f5.length c5) := (by simp [World.cell?, yy]); clear yy
        go_simp
        with_reducible rfl
      rotate_left
      · simp only [Act.put, List.setIfInBounds_toArray, List.set_cons_zero, List.set_cons_succ, i64_w, i32_w]
        rfl
      refine one_ (i := 11) (N := some 39) #[true, true, true, true, true, true, true, true, true, true, true, true, false, false, false, false, false] rfl rfl (by kernel_rfl) (by decide) (fun K hK => ?_)
      refine Kd.R_append_rows_step (Kd.int .i64) (w0 := wv) wv.heap.size (by rfl) (.tmp 36) (.tmp 38) 39 3 (.int .i64 0) 8 rfl Try.underlying39 info3 rfl (by decide) (by omega) (.slice none 0 0) ([] : List Int) t.f5 A5 t.f5.length c5 (fun _ => True) (fun _ => False) rfl rfl (Kd.R_nil _ _ _ _ (fun _ => True)) (Kd.C_below HGa.out HH.out) (fun _ _ hk => hk) (fun _ h => h.elim) (fun _ _ => trivial) (Below.refl _ _) (Nat.le_refl _) (by have := HL5.out; simp only [List.length_nil]; omega) ?_
      intro v5 w5 HR5 HB5 HG5 HA5
      have HR6 : (Kd.int .i64).R 3 w5 wv.heap.size (fun _ => True) v5 t.f5 := HR5
      obtain ⟨B5, d5, e5⟩ := Kd.R_slice HR6
      subst e5
      have HQ := Aside0.mk (Kd.R_mono (Kd.R_bound (Kd.R_lower HR6 HH.out.size)) (ok' := fun q => wo.heap.size ≤ q) (fun q hq => hq.2.1))
      have HP := Aside0.mk (HH.out.trans (HB5.mono HH.out.size))
      clear HR5 HR6 HB5 HG5 HA5 HH
      have HH := HP
      clear HP
      refine hK.out _ _ HH.out (fun _ => ?_)
      clear hK K
      refine norm_ (a' := ?_) ?_ ?_
      rotate_left
      · show Act.put _ (some 39) _ = _
        simp only [Act.put, List.setIfInBounds_toArray, List.set_cons_zero, List.set_cons_succ, i64_w, i32_w]
        rfl
      refine pure_ (i := 12) (N := some 40) (v := ?_) (a' := ?_) #[true, true, true, true, true, true, true, true, true, true, true, true, true, false, false, false, false] rfl rfl (by kernel_rfl) (fun _ _ _ h => h) (Or.inl ⟨by rfl, ?_⟩) ?_ ?_
      rotate_left
      · intro w_
        go_simp
        with_reducible rfl
      rotate_left
      · simp only [Act.put, List.setIfInBounds_toArray, List.set_cons_zero, List.set_cons_succ, i64_w, i32_w]
        rfl
      have HSW := Aside0.mk (HSa.out.below HH.out)
      refine one_ (i := 13) (N := some 41) #[true, true, true, true, true, true, true, true, true, true, true, true, true, true, false, false, false] rfl rfl (by kernel_rfl) (by decide) (fun K hK => ?_)
      go_simp
      refine hK.out _ _ (HH.out.alloc HH.out.size _) (fun _ => ?_)
      clear hK K
      refine last_ (i := 14) (N := some 42) #[true, true, true, true, true, true, true, true, true, true, true, true, true, true, true, false, false] rfl rfl (by kernel_rfl) (by decide) (fun K hK => ?_)
      refine Kd.R_append_step k64 (w0 := w) w.heap.size (by rfl) (.tmp 29) (.tmp 41) 28 64 (.agg #[(.string ⟨#[]⟩), (.int .i64 0), (.bool false), (.int .i64 0), (.slice none 0 0), (.slice none 0 0), (.slice none 0 0), (.slice none 0 0)]) 136 rfl Try.underlying28 info64 rfl (by decide) (by omega) VT lT (cpT t) [.string t.f0, .int .i64 t.f1, .bool t.f2, .int .i64 0, .slice none 0 0, .slice B5 t.f5.length d5, .slice none 0 0, .slice none 0 0] (fun _ => True) (fun q => wo.heap.size ≤ q) rfl rfl (k64_mkM w5 _ _ (cpT t) (Kd.R_nil _ _ _ _ _) (Kd.R_lower HQ.out (HSa.out.bel.size)) (Kd.R_nil _ _ _ _ _) (Kd.R_nil _ _ _ _ _)) (fun q hq => ⟨trivial, fun e => by have := Kd.R_lt HSa.out.t q e.symm; omega⟩) (fun _ _ => trivial) HSW.out.t HSW.out.bel HSW.out.bel.size (by have := HLN.out; have := HKB.out; omega) ?_
      intro v3 w3 HR3 HB3 HG3 HA3
      obtain ⟨A3, c3, e3⟩ := Kd.R_slice HR3
      rw [List.length_append, List.length_singleton] at e3
      subst e3
      obtain ⟨tc0, _, _, tf⟩ := HSW.out.dcell (row_ty HSW.out.t (by decide)) HG3
      have tf0 := tf 11
      have HSn := Aside0.mk (HSW.out.appT _ _ HR3 HB3 HG3)
      clear tf HR3 HB3 HG3 HA3
      refine hK.out _ _ ?_
      clear hK K
      refine norm_ (a' := ?_) ?_ ?_
      rotate_left
      · show Act.put _ (some 42) _ = _
        simp only [Act.put, List.setIfInBounds_toArray, List.set_cons_zero, List.set_cons_succ, i64_w, i32_w]
        rfl
      refine pure_ (i := 15) (N := some 43) (v := ?_) (a' := ?_) #[true, true, true, true, true, true, true, true, true, true, true, true, true, true, true, true, false] rfl rfl (by kernel_rfl) (fun _ _ _ h => h) (Or.inl ⟨by rfl, ?_⟩) ?_ ?_
      rotate_left
      · intro w_
        go_simp
        with_reducible rfl
      rotate_left
      · simp only [Act.put, List.setIfInBounds_toArray, List.set_cons_zero, List.set_cons_succ, i64_w, i32_w]
        rfl
      refine last_ (i := 16) (N := none) #[true, true, true, true, true, true, true, true, true, true, true, true, true, true, true, true, true] rfl rfl (by kernel_rfl) (by decide) (fun K hK => ?_)
      go_simp
      refine hK.out _ _ ?_
      clear hK K
      refine done_ (by kernel_rfl) ?_
      clear HSW HSa HH tf0 tc0 HY HQ HGa
      go_wp2_with fail
      go_roundw
      case rel => exact ⟨k + 1, _, HLT.out, by go_num, ⟨by rw [HTK.out]; exact HSn.out⟩⟩
      case measure => have := HLT.out; simp [intOf]; omega
    · have hd : decide ((k : Int) < (ts.length : Int)) = false := decide_eq_false (by omega)
      have HS1 := Aside0.mk (show Cp x AT cT AR cR AI cI ts.length rs.length is.length x.b9 w VT (.slice none 0 0) (.slice none 0 0) (ts.map cpT) [] [] wr by have h := HS0.out; rw [List.take_of_length_le (by omega)] at h; exact h)
      clear HS0
      go_wp2_with fail
      clear q11 hd hlt hk
      go_loopw [7] (fun i wr => ∃ (k : Nat) (VR : Value), k ≤ rs.length ∧ i = .int .i64 k ∧ Aside0 (Cp x AT cT AR cR AI cI ts.length rs.length is.length x.b9 w VT VR (.slice none 0 0) (ts.map cpT) (rs.take k) [] wr)) (fun i _ => rs.length - (intOf i).toNat)
      case atStart => exact ⟨0, _, by omega, rfl, HS1⟩
      case round =>
        clear HS1
        obtain ⟨k, VR, hk, rfl, HS0⟩ := hrel
        obtain ⟨wo, rfl⟩ : ∃ wo : World, wo = wr := ⟨_, rfl⟩
        have q12 := HS0.out.box.res
        by_cases hlt : k < rs.length
        · have hd : decide ((k : Int) < (rs.length : Int)) = true := decide_eq_true (by omega)
          have HLT := Aside0.mk (Nat.succ_le_of_lt hlt)
          obtain ⟨ad, e, hra⟩ := res_cells (HG.out.cfg.below HS0.out.bel).r k hlt
          subst e
          have HTK := Aside0.mk (show rs.take (k + 1) = rs.take k ++ [rs.getD k z73] by have h := take_snocm (fun r : S73 => r) rs z73 k hlt; simpa using h)
          have HLN := Aside0.mk (take_len0 rs k hk)
          have HKB := Aside0.mk (show (k + 1) * 32 ≤ 140737488355328 by omega)
          have HTK57 := Aside0.mk hra
          clear hra
          generalize rs.getD k z73 = t at *
          generalize rs.take k = lT at *
          go_wp2_with fail
          refine start_ (n := 11) (S := fun w_ => Below wo.heap.size wo w_) (ds := [8, 10]) #[false, false, false, false, false, false, false, false, false, false, false] (by kernel_rfl) rfl rfl (drew_below wo) (fun hHeld => ?_)
          have HH := Aside0.mk hHeld
          clear hHeld
          generalize wo.drew = wv at HH ⊢
          refine pure_ (i := 0) (N := some 51) (v := ?_) (a' := ?_) #[true, false, false, false, false, false, false, false, false, false, false] rfl rfl (by kernel_rfl) (fun _ _ _ h => h) (Or.inl ⟨by rfl, ?_⟩) ?_ ?_
          rotate_left
          · intro w_
            go_simp
            with_reducible rfl
          rotate_left
          · simp only [Act.put, List.setIfInBounds_toArray, List.set_cons_zero, List.set_cons_succ, i64_w, i32_w]
            rfl
          refine take_ (i := 1) (N := some 52) (v := ?_) (a' := ?_) #[true, true, false, false, false, false, false, false, false, false, false] rfl rfl (by kernel_rfl) (fun _ _ _ h => h) (Or.inl ⟨by rfl, ?_⟩) HH.out ?_ ?_
          rotate_left
          · rintro w_ s
            obtain ⟨_, p12, _⟩ := (HS0.out.below s).cells; have q12 := (HS0.out.below s).box.res
            go_simp
            with_reducible rfl
          rotate_left
          · simp only [Act.put, List.setIfInBounds_toArray, List.set_cons_zero, List.set_cons_succ, i64_w, i32_w]
            rfl
          refine pure_ (i := 2) (N := some 53) (v := ?_) (a' := ?_) #[true, true, true, false, false, false, false, false, false, false, false] rfl rfl (by kernel_rfl) (fun _ _ _ h => h) (Or.inl ⟨by rfl, ?_⟩) ?_ ?_
          rotate_left
          · intro w_
            go_simp
            with_reducible rfl
          rotate_left
          · simp only [Act.put, List.setIfInBounds_toArray, List.set_cons_zero, List.set_cons_succ, i64_w, i32_w]
            rfl
          refine take_ (i := 3) (N := some 54) (v := ?_) (a' := ?_) #[true, true, true, true, false, false, false, false, false, false, false] rfl rfl (by kernel_rfl) (fun _ _ _ h => h) (Or.inl ⟨by rfl, ?_⟩) HH.out ?_ ?_
          rotate_left
          · rintro w_ s
            obtain ⟨_, p12, _⟩ := (HS0.out.below s).cells; have q12 := (HS0.out.below s).box.res
            go_simp
            with_reducible rfl
          rotate_left
          · simp only [Act.put, List.setIfInBounds_toArray, List.set_cons_zero, List.set_cons_succ, i64_w, i32_w]
            rfl
          refine pure_ (i := 4) (N := some 55) (v := ?_) (a' := ?_) #[true, true, true, true, true, false, false, false, false, false, false] rfl rfl (by kernel_rfl) (fun _ _ _ h => h) (Or.inl ⟨by rfl, ?_⟩) ?_ ?_
          rotate_left
          · intro w_
            go_simp
            with_reducible rfl
          rotate_left
          · simp only [Act.put, List.setIfInBounds_toArray, List.set_cons_zero, List.set_cons_succ, i64_w, i32_w]
            rfl
          refine pure_ (i := 5) (N := some 56) (v := ?_) (a' := ?_) #[true, true, true, true, true, true, false, false, false, false, false] rfl rfl (by kernel_rfl) (fun _ _ _ h => h) (Or.inl ⟨by rfl, ?_⟩) ?_ ?_
          rotate_left
          · intro w_
            go_simp
            with_reducible rfl
          rotate_left
          · simp only [Act.put, List.setIfInBounds_toArray, List.set_cons_zero, List.set_cons_succ, i64_w, i32_w]
            rfl
          refine take_ (i := 6) (N := some 57) (v := ?_) (a' := ?_) #[true, true, true, true, true, true, true, false, false, false, false] rfl rfl (by kernel_rfl) (fun _ _ _ h => h) (Or.inl ⟨by rfl, ?_⟩) HH.out ?_ ?_
          rotate_left
          · rintro w_ s
            refine run73 (HTK57.out.below s) (.tmp 56) ?_ ?_ <;> rfl
          rotate_left
          · simp only [Act.put, List.setIfInBounds_toArray, List.set_cons_zero, List.set_cons_succ, i64_w, i32_w]
            rfl
          have HSW := Aside0.mk (HS0.out.below HH.out)
          refine one_ (i := 7) (N := some 58) #[true, true, true, true, true, true, true, true, false, false, false] rfl rfl (by kernel_rfl) (by decide) (fun K hK => ?_)
          go_simp
          refine hK.out _ _ (HH.out.alloc HH.out.size _) (fun _ => ?_)
          clear hK K
          refine last_ (i := 8) (N := some 59) #[true, true, true, true, true, true, true, true, true, false, false] rfl rfl (by kernel_rfl) (by decide) (fun K hK => ?_)
          refine Kd.R_append_step k73 (w0 := w) w.heap.size (by rfl) (.tmp 52) (.tmp 58) 29 73 (.agg #[(.string ⟨#[]⟩), (.int .i64 0), (.int .i64 0)]) 32 rfl Try.underlying29 info73 rfl (by decide) (by omega) VR lT t [.string t.f0, .int .i64 t.f1, .int .i64 t.f2] (fun _ => True) (fun _ => False) rfl rfl (k73_mkM _ _ _ t) (fun _ hk => hk.elim) (fun _ _ => trivial) HSW.out.r HSW.out.bel HSW.out.bel.size (by have := HLN.out; have := HKB.out; omega) ?_
          intro v3 w3 HR3 HB3 HG3 HA3
          obtain ⟨A3, c3, e3⟩ := Kd.R_slice HR3
          rw [List.length_append, List.length_singleton] at e3
          subst e3
          obtain ⟨_, tc0, _, tf⟩ := HSW.out.dcell (row_ty HSW.out.r (by decide)) HG3
          have tf0 := tf 12
          have HSn := Aside0.mk (HSW.out.appR _ _ HR3 HB3 HG3)
          clear tf HR3 HB3 HG3 HA3
          refine hK.out _ _ ?_
          clear hK K
          refine norm_ (a' := ?_) ?_ ?_
          rotate_left
          · show Act.put _ (some 59) _ = _
            simp only [Act.put, List.setIfInBounds_toArray, List.set_cons_zero, List.set_cons_succ, i64_w, i32_w]
            rfl
          refine pure_ (i := 9) (N := some 60) (v := ?_) (a' := ?_) #[true, true, true, true, true, true, true, true, true, true, false] rfl rfl (by kernel_rfl) (fun _ _ _ h => h) (Or.inl ⟨by rfl, ?_⟩) ?_ ?_
          rotate_left
          · intro w_
            go_simp
            with_reducible rfl
          rotate_left
          · simp only [Act.put, List.setIfInBounds_toArray, List.set_cons_zero, List.set_cons_succ, i64_w, i32_w]
            rfl
          refine last_ (i := 10) (N := none) #[true, true, true, true, true, true, true, true, true, true, true] rfl rfl (by kernel_rfl) (by decide) (fun K hK => ?_)
          go_simp
          refine hK.out _ _ ?_
          clear hK K
          refine done_ (by kernel_rfl) ?_
          clear HSW HS0 HH tf0 tc0 q12 HTK57
          go_wp2_with fail
          go_roundw
          case rel => exact ⟨k + 1, _, HLT.out, by go_num, ⟨by rw [HTK.out]; exact HSn.out⟩⟩
          case measure => have := HLT.out; simp [intOf]; omega
        · have hd : decide ((k : Int) < (rs.length : Int)) = false := decide_eq_false (by omega)
          have HS1 := Aside0.mk (show Cp x AT cT AR cR AI cI ts.length rs.length is.length x.b9 w VT VR (.slice none 0 0) (ts.map cpT) rs [] wo by have h := HS0.out; rw [List.take_of_length_le (by omega)] at h; exact h)
          clear HS0
          go_wp2_with fail
          clear q12 hd hlt hk
          go_loopw [8] (fun i wr => ∃ (k : Nat) (VI : Value), k ≤ is.length ∧ i = .int .i64 k ∧ Aside0 (Cp x AT cT AR cR AI cI ts.length rs.length is.length x.b9 w VT VR VI (ts.map cpT) rs ((is.take k).map cpI) wr)) (fun i _ => is.length - (intOf i).toNat)
          case atStart => exact ⟨0, _, by omega, rfl, HS1⟩
          case round =>
            clear HS1
            obtain ⟨k, VI, hk, rfl, HS0⟩ := hrel
            have q16 := HS0.out.box.isrs
            by_cases hlt : k < is.length
            · have hd : decide ((k : Int) < (is.length : Int)) = true := decide_eq_true (by omega)
              have HLT := Aside0.mk (Nat.succ_le_of_lt hlt)
              obtain ⟨ad, A3, c3, A4, c4, e, hta, _, g5⟩ := isr_cells (HG.out.cfg.below HS0.out.bel).i k hlt
              subst e
              have HL5 := Aside0.mk (HIS.out k hlt)
              have HTK := Aside0.mk (take_snocm cpI is z66 k hlt)
              have HLN := Aside0.mk (take_len cpI is k hk)
              have HTA := Aside0.mk hta
              have HG5 := Aside0.mk g5
              have HKB := Aside0.mk (show (k + 1) * 80 ≤ 140737488355328 by have := HIB.out; omega)
              clear hta g5
              generalize is.getD k z66 = t at *
              generalize (is.take k).map cpI = lT at *
              have hba : Below wr.heap.size wr (wr.alloc (.cells #[.string t.f0, .int .i64 t.f1, .int .i64 t.f2, .slice A3 t.f3.length c3, .slice A4 t.f4.length c4] 66)) := (Below.refl _ _).alloc (Nat.le_refl _) _
              have HSa := Aside0.mk (HS0.out.below hba)
              have HGa := Aside0.mk (Kd.C_below HG5.out hba)
              have HY := Aside0.mk (heap_alloc_new wr (.cells #[.string t.f0, .int .i64 t.f1, .int .i64 t.f2, .slice A3 t.f3.length c3, .slice A4 t.f4.length c4] 66))
              clear hba
              go_wp2_with (first | ((with_reducible refine gate_dst (N := 72) rfl ?_); refine load66 HTA.out rfl (.tmp 71) rfl rfl ?_))
              clear HS0 q16 HG5 HTA
              generalize wr.alloc (.cells #[.string t.f0, .int .i64 t.f1, .int .i64 t.f2, .slice A3 t.f3.length c3, .slice A4 t.f4.length c4] 66) = wo at *
              generalize wr.heap.size = Bt at *
              refine start_ (n := 15) (S := fun w_ => Below wo.heap.size wo w_) (ds := [12, 14]) #[false, false, false, false, false, false, false, false, false, false, false, false, false, false, false] (by kernel_rfl) rfl rfl (drew_below wo) (fun hHeld => ?_)
              have HH := Aside0.mk hHeld
              clear hHeld
              generalize wo.drew = wv at HH ⊢
              refine pure_ (i := 0) (N := some 73) (v := ?_) (a' := ?_) #[true, false, false, false, false, false, false, false, false, false, false, false, false, false, false] rfl rfl (by kernel_rfl) (fun _ _ _ h => h) (Or.inl ⟨by rfl, ?_⟩) ?_ ?_
              rotate_left
              · intro w_
                go_simp
                with_reducible rfl
              rotate_left
              · simp only [Act.put, List.setIfInBounds_toArray, List.set_cons_zero, List.set_cons_succ, i64_w, i32_w]
                rfl
              refine take_ (i := 1) (N := some 74) (v := ?_) (a' := ?_) #[true, true, false, false, false, false, false, false, false, false, false, false, false, false, false] rfl rfl (by kernel_rfl) (fun _ _ _ h => h) (Or.inl ⟨by rfl, ?_⟩) HH.out ?_ ?_
              rotate_left
              · rintro w_ s
                obtain ⟨_, _, p16, _⟩ := (HSa.out.below s).cells; have yy := (s.block _ (blk_lt HY.out)).trans HY.out; have y0 : w_.cell? ⟨Bt, 0, none⟩ = some (.string t.f0) := (by simp [World.cell?, yy]); have y2 : w_.cell? ⟨Bt, 2, none⟩ = some (.int .i64 t.f2) := (by simp [World.cell?, yy]); have y3 : w_.cell? ⟨Bt, 3, none⟩ = some (.slice A3 t.f3.length c3) := (by simp [World.cell?, yy]); clear yy
                go_simp
                with_reducible rfl
              rotate_left
              · simp only [Act.put, List.setIfInBounds_toArray, List.set_cons_zero, List.set_cons_succ, i64_w, i32_w]
                rfl
              refine pure_ (i := 2) (N := some 75) (v := ?_) (a' := ?_) #[true, true, true, false, false, false, false, false, false, false, false, false, false, false, false] rfl rfl (by kernel_rfl) (fun _ _ _ h => h) (Or.inl ⟨by rfl, ?_⟩) ?_ ?_
              rotate_left
              · intro w_
                go_simp
                with_reducible rfl
              rotate_left
              · simp only [Act.put, List.setIfInBounds_toArray, List.set_cons_zero, List.set_cons_succ, i64_w, i32_w]
                rfl
              refine take_ (i := 3) (N := some 76) (v := ?_) (a' := ?_) #[true, true, true, true, false, false, false, false, false, false, false, false, false, false, false] rfl rfl (by kernel_rfl) (fun _ _ _ h => h) (Or.inl ⟨by rfl, ?_⟩) HH.out ?_ ?_
              rotate_left
              · rintro w_ s
                obtain ⟨_, _, p16, _⟩ := (HSa.out.below s).cells; have yy := (s.block _ (blk_lt HY.out)).trans HY.out; have y0 : w_.cell? ⟨Bt, 0, none⟩ = some (.string t.f0) := (by simp [World.cell?, yy]); have y2 : w_.cell? ⟨Bt, 2, none⟩ = some (.int .i64 t.f2) := (by simp [World.cell?, yy]); have y3 : w_.cell? ⟨Bt, 3, none⟩ = some (.slice A3 t.f3.length c3) := (by simp [World.cell?, yy]); clear yy
                go_simp
                with_reducible rfl
              rotate_left
              · simp only [Act.put, List.setIfInBounds_toArray, List.set_cons_zero, List.set_cons_succ, i64_w, i32_w]
                rfl
              refine pure_ (i := 4) (N := some 77) (v := ?_) (a' := ?_) #[true, true, true, true, true, false, false, false, false, false, false, false, false, false, false] rfl rfl (by kernel_rfl) (fun _ _ _ h => h) (Or.inl ⟨by rfl, ?_⟩) ?_ ?_
              rotate_left
              · intro w_
                go_simp
                with_reducible rfl
              rotate_left
              · simp only [Act.put, List.setIfInBounds_toArray, List.set_cons_zero, List.set_cons_succ, i64_w, i32_w]
                rfl
              refine take_ (i := 5) (N := some 78) (v := ?_) (a' := ?_) #[true, true, true, true, true, true, false, false, false, false, false, false, false, false, false] rfl rfl (by kernel_rfl) (fun _ _ _ h => h) (Or.inl ⟨by rfl, ?_⟩) HH.out ?_ ?_
              rotate_left
              · rintro w_ s
                obtain ⟨_, _, p16, _⟩ := (HSa.out.below s).cells; have yy := (s.block _ (blk_lt HY.out)).trans HY.out; have y0 : w_.cell? ⟨Bt, 0, none⟩ = some (.string t.f0) := (by simp [World.cell?, yy]); have y2 : w_.cell? ⟨Bt, 2, none⟩ = some (.int .i64 t.f2) := (by simp [World.cell?, yy]); have y3 : w_.cell? ⟨Bt, 3, none⟩ = some (.slice A3 t.f3.length c3) := (by simp [World.cell?, yy]); clear yy
                go_simp
                with_reducible rfl
              rotate_left
              · simp only [Act.put, List.setIfInBounds_toArray, List.set_cons_zero, List.set_cons_succ, i64_w, i32_w]
                rfl
              refine pure_ (i := 6) (N := some 79) (v := ?_) (a' := ?_) #[true, true, true, true, true, true, true, false, false, false, false, false, false, false, false] rfl rfl (by kernel_rfl) (fun _ _ _ h => h) (Or.inl ⟨by rfl, ?_⟩) ?_ ?_
              rotate_left
              · intro w_
                go_simp
                with_reducible rfl
              rotate_left
              · simp only [Act.put, List.setIfInBounds_toArray, List.set_cons_zero, List.set_cons_succ, i64_w, i32_w]
                rfl
              refine pure_ (i := 7) (N := some 80) (v := ?_) (a' := ?_) #[true, true, true, true, true, true, true, true, false, false, false, false, false, false, false] rfl rfl (by kernel_rfl) (fun _ _ _ h => h) (Or.inl ⟨by rfl, ?_⟩) ?_ ?_
              rotate_left
              · intro w_
                go_simp
                with_reducible rfl
              rotate_left
              · simp only [Act.put, List.setIfInBounds_toArray, List.set_cons_zero, List.set_cons_succ, i64_w, i32_w]
                rfl
              refine take_ (i := 8) (N := some 81) (v := ?_) (a' := ?_) #[true, true, true, true, true, true, true, true, true, false, false, false, false, false, false] rfl rfl (by kernel_rfl) (fun _ _ _ h => h) (Or.inl ⟨by rfl, ?_⟩) HH.out ?_ ?_
              rotate_left
              · rintro w_ s
                obtain ⟨_, _, p16, _⟩ := (HSa.out.below s).cells; have yy := (s.block _ (blk_lt HY.out)).trans HY.out; have y0 : w_.cell? ⟨Bt, 0, none⟩ = some (.string t.f0) := (by simp [World.cell?, yy]); have y2 : w_.cell? ⟨Bt, 2, none⟩ = some (.int .i64 t.f2) := (by simp [World.cell?, yy]); have y3 : w_.cell? ⟨Bt, 3, none⟩ = some (.slice A3 t.f3.length c3) := (by simp [World.cell?, yy]); clear yy
                go_simp
                with_reducible rfl
              rotate_left
              · simp only [Act.put, List.setIfInBounds_toArray, List.set_cons_zero, List.set_cons_succ, i64_w, i32_w]
                rfl
              refine one_ (i := 9) (N := some 82) #[true, true, true, true, true, true, true, true, true, true, false, false, false, false, false] rfl rfl (by kernel_rfl) (by decide) (fun K hK => ?_)
              refine Kd.R_append_rows_step (Kd.int .i64) (w0 := wv) wv.heap.size (by rfl) (.tmp 79) (.tmp 81) 39 3 (.int .i64 0) 8 rfl Try.underlying39 info3 rfl (by decide) (by omega) (.slice none 0 0) ([] : List Int) t.f3 A3 t.f3.length c3 (fun _ => True) (fun _ => False) rfl rfl (Kd.R_nil _ _ _ _ (fun _ => True)) (Kd.C_below HGa.out HH.out) (fun _ _ hk => hk) (fun _ h => h.elim) (fun _ _ => trivial) (Below.refl _ _) (Nat.le_refl _) (by have := HL5.out; simp only [List.length_nil]; omega) ?_
              intro v5 w5 HR5 HB5 HG5 HA5
              have HR6 : (Kd.int .i64).R 3 w5 wv.heap.size (fun _ => True) v5 t.f3 := HR5
              obtain ⟨B5, d5, e5⟩ := Kd.R_slice HR6
              subst e5
              have HQ := Aside0.mk (Kd.R_mono (Kd.R_bound (Kd.R_lower HR6 HH.out.size)) (ok' := fun q => wo.heap.size ≤ q) (fun q hq => hq.2.1))
              have HP := Aside0.mk (HH.out.trans (HB5.mono HH.out.size))
              clear HR5 HR6 HB5 HG5 HA5 HH
              have HH := HP
              clear HP
              refine hK.out _ _ HH.out (fun _ => ?_)
              clear hK K
              refine norm_ (a' := ?_) ?_ ?_
              rotate_left
              · show Act.put _ (some 82) _ = _
                simp only [Act.put, List.setIfInBounds_toArray, List.set_cons_zero, List.set_cons_succ, i64_w, i32_w]
                rfl
              refine pure_ (i := 10) (N := some 83) (v := ?_) (a' := ?_) #[true, true, true, true, true, true, true, true, true, true, true, false, false, false, false] rfl rfl (by kernel_rfl) (fun _ _ _ h => h) (Or.inl ⟨by rfl, ?_⟩) ?_ ?_
              rotate_left
              · intro w_
                go_simp
                with_reducible rfl
              rotate_left
              · simp only [Act.put, List.setIfInBounds_toArray, List.set_cons_zero, List.set_cons_succ, i64_w, i32_w]
                rfl
              have HSW := Aside0.mk (HSa.out.below HH.out)
              refine one_ (i := 11) (N := some 84) #[true, true, true, true, true, true, true, true, true, true, true, true, false, false, false] rfl rfl (by kernel_rfl) (by decide) (fun K hK => ?_)
              go_simp
              refine hK.out _ _ (HH.out.alloc HH.out.size _) (fun _ => ?_)
              clear hK K
              refine last_ (i := 12) (N := some 85) #[true, true, true, true, true, true, true, true, true, true, true, true, true, false, false] rfl rfl (by kernel_rfl) (by decide) (fun K hK => ?_)
              refine Kd.R_append_step k66 (w0 := w) w.heap.size (by rfl) (.tmp 74) (.tmp 84) 33 66 (.agg #[(.string ⟨#[]⟩), (.int .i64 0), (.int .i64 0), (.slice none 0 0), (.slice none 0 0)]) 80 rfl Try.underlying33 info66 rfl (by decide) (by omega) VI lT (cpI t) [.string t.f0, .int .i64 0, .int .i64 t.f2, .slice B5 t.f3.length d5, .slice none 0 0] (fun _ => True) (fun q => wo.heap.size ≤ q) rfl rfl (k66_mkM w5 _ _ (cpI t) (Kd.R_lower HQ.out (HSa.out.bel.size)) (Kd.R_nil _ _ _ _ _)) (fun q hq => ⟨trivial, fun e => by have := Kd.R_lt HSa.out.i q e.symm; omega⟩) (fun _ _ => trivial) HSW.out.i HSW.out.bel HSW.out.bel.size (by have := HLN.out; have := HKB.out; omega) ?_
              intro v3 w3 HR3 HB3 HG3 HA3
              obtain ⟨A3, c3, e3⟩ := Kd.R_slice HR3
              rw [List.length_append, List.length_singleton] at e3
              subst e3
              obtain ⟨_, _, tc0, tf⟩ := HSW.out.dcell (row_ty HSW.out.i (by decide)) HG3
              have tf0 := tf 16
              have HSn := Aside0.mk (HSW.out.appI _ _ HR3 HB3 HG3)
              clear tf HR3 HB3 HG3 HA3
              refine hK.out _ _ ?_
              clear hK K
              refine norm_ (a' := ?_) ?_ ?_
              rotate_left
              · show Act.put _ (some 85) _ = _
                simp only [Act.put, List.setIfInBounds_toArray, List.set_cons_zero, List.set_cons_succ, i64_w, i32_w]
                rfl
              refine pure_ (i := 13) (N := some 86) (v := ?_) (a' := ?_) #[true, true, true, true, true, true, true, true, true, true, true, true, true, true, false] rfl rfl (by kernel_rfl) (fun _ _ _ h => h) (Or.inl ⟨by rfl, ?_⟩) ?_ ?_
              rotate_left
              · intro w_
                go_simp
                with_reducible rfl
              rotate_left
              · simp only [Act.put, List.setIfInBounds_toArray, List.set_cons_zero, List.set_cons_succ, i64_w, i32_w]
                rfl
              refine last_ (i := 14) (N := none) #[true, true, true, true, true, true, true, true, true, true, true, true, true, true, true] rfl rfl (by kernel_rfl) (by decide) (fun K hK => ?_)
              go_simp
              refine hK.out _ _ ?_
              clear hK K
              refine done_ (by kernel_rfl) ?_
              clear HSW HSa HH tf0 tc0 HY HQ HGa
              go_wp2_with fail
              go_roundw
              case rel => exact ⟨k + 1, _, HLT.out, by go_num, ⟨by rw [HTK.out]; exact HSn.out⟩⟩
              case measure => have := HLT.out; simp [intOf]; omega
            · have hd : decide ((k : Int) < (is.length : Int)) = false := decide_eq_false (by omega)
              have HS1 := Aside0.mk (show Cp x AT cT AR cR AI cI ts.length rs.length is.length x.b9 w VT VR VI (ts.map cpT) rs (is.map cpI) wr by have h := HS0.out; rw [List.take_of_length_le (by omega)] at h; exact h)
              clear HS0
              obtain ⟨AT2, dT, e1⟩ := Kd.R_slice HS1.out.t
              obtain ⟨AR2, dR, e2⟩ := Kd.R_slice HS1.out.r
              obtain ⟨AI2, dI, e3⟩ := Kd.R_slice HS1.out.i
              rw [List.length_map] at e1 e3
              subst e1 e2 e3
              have HD := Aside0.mk (show BoxAt wr (w.heap.size + 1 + 1) ⟨⟨#[]⟩, ⟨#[]⟩, false, false, false, false, false, false, false, x.b9, none, 0, 0, none, 0, 0, none, 0, 0, none, 0, 0, none, 0, 0⟩ AT2 dT AR2 dR AI2 dI ts.length rs.length is.length from HS1.out.d)
              have HPH := Aside0.mk (setRow_heap wr (w.heap.size + 1) _ (cpArr x.b9 (.slice AT2 ts.length dT) (.slice AR2 rs.length dR) (.slice AI2 is.length dI)) 36 (0, 0) HS1.out.zero)
              have hot : ∀ {α : Type} {d : Kd α} {e : Nat} {v : Value} {xs : List α}, d.R e wr w.heap.size (fun _ => True) v xs → (∀ q, q ∈ e :: d.E → q ≠ 36) → d.R e (wr.setRow (w.heap.size + 1) (cpArr x.b9 (.slice AT2 ts.length dT) (.slice AR2 rs.length dR) (.slice AI2 is.length dI))) w.heap.size (fun _ => True) v xs := fun h hq =>
                Kd.R_mono (Kd.R_step (Kd.R_types h HS1.out.zero hq) (fun q hq2 _ => setRow_other wr (w.heap.size + 1) q _ hq2.2)) (fun _ _ => trivial)
              have HF := Aside0.mk (show Below w.heap.size w (wr.setRow (w.heap.size + 1) (cpArr x.b9 (.slice AT2 ts.length dT) (.slice AR2 rs.length dR) (.slice AI2 is.length dI))) ∧ _ ∧ _ ∧ _ from ⟨below_setRow HS1.out.bel (by omega) _, hot HS1.out.t (by decide), hot HS1.out.r (by decide), hot HS1.out.i (by decide)⟩)
              clear hot
              have HONE := Aside0.mk (show (cpArr x.b9 (.slice AT2 ts.length dT) (.slice AR2 rs.length dR) (.slice AI2 is.length dI)).all (·.oneCell') = true from by simp [cpArr, Value.oneCell'])
              go_wp2_with (first | ((with_reducible refine gate_dst (N := 87) rfl ?_); refine load36 HD.out rfl (.tmp 3) rfl rfl ?_) | (refine store36 HS1.out.zero rfl (cpArr x.b9 (.slice AT2 ts.length dT) (.slice AR2 rs.length dR) (.slice AI2 is.length dI)) rfl HONE.out rfl (.tmp 2) (.tmp 87) rfl rfl rfl ?_))
              refine bodyPost_ret (results_cell_row rfl _ _ (w.heap.size + 1) 36 (cpArr x.b9 (.slice AT2 ts.length dT) (.slice AR2 rs.length dR) (.slice AI2 is.length dI)) (0, 0) _ rfl HPH.out Try.underlying36 rfl (by kernel_rfl)) rfl ?_
              exact ⟨HF.out.1, AT2, dT, AR2, dR, AI2, dI, rfl, HF.out.2⟩
end Go.Proofs.Ytflkbheginhfiaa.XA
/- what the copy of a configuration answers is what the configuration answers. -/
namespace Go.Proofs.Ytflkbheginhfiaa.XA
set_option linter.unusedVariables false
set_option linter.unusedSimpArgs false
open Go.RowKit Go.WideMaps Go.Maps Go.Proofs.YtflkbheginhfiaaW.PrintWords Go.Proofs.YtflkbheginhfiaaW.PrintLast Go.Proofs.YtflkbheginhfiaaW.PrintMore
theorem gT (ts : List S64) (k : Nat) : (ts.map cpT).getD k z64 = cpT (ts.getD k z64) := by
  have h : cpT z64 = z64 := rfl
  simp only [List.getD_eq_getElem?_getD, List.getElem?_map]
  cases ts[k]? <;> simp [h]
theorem gI (is : List S66) (k : Nat) : (is.map cpI).getD k z66 = cpI (is.getD k z66) := by
  have h : cpI z66 = z66 := rfl
  simp only [List.getD_eq_getElem?_getD, List.getElem?_map]
  cases is[k]? <;> simp [h]
theorem taskUsers_cp (rs : List S73) (ts : List S64) (q k : Nat) : taskUsers rs (ts.map cpT) q k = taskUsers rs ts q k := by
  unfold taskUsers
  simp only [gT, cpT]
theorem isrUsers_cp (rs : List S73) (is : List S66) (q k : Nat) : isrUsers rs (is.map cpI) q k = isrUsers rs is q k := by
  unfold isrUsers
  simp only [gI, cpI]
theorem ceilF_cp (ts : List S64) (rs : List S73) (is : List S66) : ceilF (ts.map cpT) rs (is.map cpI) = ceilF ts rs is := by
  funext q
  unfold ceilF
  rw [taskUsers_cp, isrUsers_cp, List.length_map, List.length_map]
theorem schF_cp (ts : List S64) : ∀ k, schF (ts.map cpT) k = schF ts k
  | 0 => rfl
  | k + 1 => by
    unfold schF
    rw [gT, schF_cp ts k]
    rfl
theorem runF_cp (ts : List S64) (rs : List S73) (is : List S66) (t : S64) : runF (ts.map cpT) rs (is.map cpI) (cpT t) = runF ts rs is t := by
  unfold runF runP
  rw [ceilF_cp, schF_cp, List.length_map]
  rfl
theorem refs_cp (ts : List S64) (rs : List S73) (is : List S66) : RefsOk (ts.map cpT) rs (is.map cpI) ↔ RefsOk ts rs is := by
  constructor
  · intro h
    refine ⟨fun j hj => ?_, fun j hj => ?_, h.r⟩
    · have := h.t j (by rw [List.length_map]; exact hj)
      rw [gT] at this
      exact this
    · have := h.i j (by rw [List.length_map]; exact hj)
      rw [gI] at this
      exact this
  · intro h
    refine ⟨fun j hj => ?_, fun j hj => ?_, h.r⟩
    · rw [List.length_map] at hj
      rw [gT]
      exact h.t j hj
    · rw [List.length_map] at hj
      rw [gI]
      exact h.i j hj
theorem inner_cp (ts : List S64) (rs : List S73) (is : List S66) : InnerOk (ts.map cpT) rs (is.map cpI) ↔ InnerOk ts rs is := by
  constructor
  · intro h
    refine ⟨fun j hj => ?_, fun j hj => ?_, h.r⟩
    · have := h.t j (by rw [List.length_map]; exact hj)
      rw [gT] at this
      exact this
    · have := h.i j (by rw [List.length_map]; exact hj)
      rw [gI] at this
      exact this
  · intro h
    refine ⟨fun j hj => ?_, fun j hj => ?_, h.r⟩
    · rw [List.length_map] at hj
      rw [gT]
      exact h.t j hj
    · rw [List.length_map] at hj
      rw [gI]
      exact h.i j hj
theorem checkV_cp (ts : List S64) (rs : List S73) (is : List S66) : checkV (ts.map cpT) rs (is.map cpI) = checkV ts rs is := by
  have h1 := propext (refs_cp ts rs is)
  have h2 := propext (inner_cp ts rs is)
  unfold checkV
  rw [h1, h2]
theorem reckonV_cp (ts : List S64) (rs : List S73) (is : List S66) (b : Bool) : reckonV (ts.map cpT) rs (is.map cpI) b = reckonV ts rs is b := by
  unfold reckonV
  rw [checkV_cp]
  have h1 : ∀ k, ceilsF (ts.map cpT) rs (is.map cpI) k = ceilsF ts rs is k := fun k => by unfold ceilsF; rw [ceilF_cp]
  have h2 : ∀ k, runsF (ts.map cpT) rs (is.map cpI) k = runsF ts rs is k := fun k => by
    unfold runsF
    congr 1
    funext j
    rw [gT, runF_cp]
  have h3 : ∀ k, cntsF (ts.map cpT) rs b k = cntsF ts rs b k := fun k => by
    unfold cntsF
    congr 1
    funext j
    rw [gT]
    rfl
  have h4 : ∀ k, isrsF (is.map cpI) k = isrsF is k := fun k => by
    unfold isrsF
    congr 1
    funext j
    rw [gI]
    rfl
  rw [h1, h2, h3, h4, schF_cp, List.length_map, List.length_map]
theorem alike_cp (ts : List S64) (is : List S66) : Alike (ts.map cpT) ts (is.map cpI) is where
  lt := by rw [List.length_map]
  t := fun k _ => by rw [gT]; exact ⟨rfl, rfl, rfl⟩
  li := by rw [List.length_map]
  i := fun k _ => by rw [gI]; exact ⟨rfl, rfl⟩
def cpCV (b : Bool) : CV := ⟨⟨#[]⟩, ⟨#[]⟩, false, false, false, false, false, false, false, b, none, 0, 0, none, 0, 0, none, 0, 0, none, 0, 0, none, 0, 0⟩
/-- what the copy bears may be handed in -/
theorem good_cp {AT : Option Addr} {cT : Nat} {AR : Option Addr} {cR : Nat} {AI : Option Addr} {cI : Nat} {ts : List S64} {rs : List S73} {is : List S66} {w w1 : World} {b : Nat} (g : Good AT cT AR cR AI cI ts rs is w) {AT2 : Option Addr} {dT : Nat} {AR2 : Option Addr} {dR : Nat} {AI2 : Option Addr} {dI : Nat} (h1 : k64.R 64 w1 b (fun _ => True) (.slice AT2 ts.length dT) (ts.map cpT)) (h2 : k73.R 73 w1 b (fun _ => True) (.slice AR2 rs.length dR) rs) (h3 : k66.R 66 w1 b (fun _ => True) (.slice AI2 is.length dI) (is.map cpI)) : Good AT2 dT AR2 dR AI2 dI (ts.map cpT) rs (is.map cpI) w1 := by
  obtain ⟨e1, l1, c1⟩ := Kd.R_reads' h1
  obtain ⟨e2, l2, c2⟩ := Kd.R_reads' h2
  obtain ⟨e3, l3, c3⟩ := Kd.R_reads' h3
  refine ⟨⟨by rw [List.length_map]; exact l1, c1, l2, c2, by rw [List.length_map]; exact l3, c3⟩, g.r, by rw [List.length_map]; exact g.t, by rw [List.length_map]; exact g.i⟩
end Go.Proofs.Ytflkbheginhfiaa.XA
