/- class.Class: the conformance class. -/
import Derived.Test.YthckjbmgeidkgaaDoorHVer
import Derived.Test.YthckjbmgeidkgaaDoorHMapC
import Derived.Test.YthckjbmgeidkgaaDoorHLowR
import Derived.Deep.WholeRow
import Derived.Test.YthckjbmgeidkgaaDoorWGuard
namespace Go.Proofs.YthckjbmgeidkgaaDoor.XA
set_option linter.unusedVariables false
set_option linter.unusedSimpArgs false
open Go.RowKit Go.WideMaps Go.Maps Go.Proofs.YthckjbmgeidkgaaDoorW.PrintWords Go.Proofs.YthckjbmgeidkgaaDoorW.PrintLast Go.Proofs.YthckjbmgeidkgaaDoorW.PrintMore
def cntP (ts : List S49) (n : Nat) (p : Int) : Int := (((List.range n).filter fun k => (ts.getD k z49).f1 == p).length : Int)
theorem cntP_zero (ts : List S49) : cntP ts 0 = fun _ => 0 := rfl
theorem cntP_succ (ts : List S49) (n : Nat) : cntP ts (n + 1) = fun q => if q = (ts.getD n z49).f1 then cntP ts n (ts.getD n z49).f1 + 1 else cntP ts n q := by
  funext q
  unfold cntP
  rw [List.range_succ, List.filter_append, List.length_append]
  by_cases h : q = (ts.getD n z49).f1
  · rw [if_pos h, h]
    have : List.filter (fun k => (ts.getD k z49).f1 == (ts.getD n z49).f1) [n] = [n] := List.filter_cons_of_pos (by simp)
    rw [this]
    simp
  · rw [if_neg h]
    have : List.filter (fun k => (ts.getD k z49).f1 == q) [n] = [] := by
      rw [List.filter_cons_of_neg (by rw [beq_iff_eq]; exact fun e => h e.symm)]
      rfl
    rw [this]
    simp
theorem cntP_le (ts : List S49) (n : Nat) (p : Int) : 0 ≤ cntP ts n p ∧ cntP ts n p ≤ n := by
  unfold cntP
  have := List.length_filter_le (fun k => (ts.getD k z49).f1 == p) (List.range n)
  rw [List.length_range] at this
  omega
def oneB (ts : List S49) (i : Nat) : Bool := (ts.getD i z49).f3 == 1 && cntP ts (i + 1) (ts.getD i z49).f1 == 1
def single (ts : List S49) (n : Nat) : Bool := (List.range n).all (oneB ts)
def extAt (ts : List S49) (i : Nat) : Bool := decide (0 < (ts.getD i z49).f6.length)
def extd (ts : List S49) (n : Nat) : Bool := (List.range n).any (extAt ts)
theorem single_succ (ts : List S49) (n : Nat) : single ts (n + 1) = (single ts n && oneB ts n) := by
  unfold single
  rw [List.range_succ, List.all_append]
  simp
theorem extd_succ (ts : List S49) (n : Nat) : extd ts (n + 1) = (extd ts n || extAt ts n) := by
  unfold extd
  rw [List.range_succ, List.any_append]
  simp
def classK (ts : List S49) : Int := if extd ts ts.length then (if single ts ts.length then 3 else 4) else if single ts ts.length then 1 else 2
def classV (c : S33) : Int × Int := if eqV (verV c) okVer then (classK c.f3, 0) else (0, 2)
section
variable {ops : Array Oper} {rest : List Oper} {o : Oper} {a : Act}
theorem store49 {Q : Exit → Act → World → Prop} {w : World} {z : Array Value} (hz : z.size = 8) (cs : Array Value) (hcs : cs.size = 8) (h1 : cs.all (·.oneCell') = true) (hgd : o.guard = none) (x y : Operand) (ho : o.op = .store 49 x y) (hx : a.eval x = .pointer (some ⟨w.heap.size, 0, none⟩)) (hy : a.eval y = .agg cs)
    (h : wpList Tryd.prog ops Q rest (a.put o.dst undef) (w.alloc (.cells cs 49))) : wpList Tryd.prog ops Q (o :: rest) a (w.alloc (.cells z 49)) :=
  wpList_plain hgd fun _ hK => by
    have hr := run_storeVar_new (P := Tryd.prog) w 49 z cs (by rw [hcs]; kernel_rfl) (by omega) h1
    unfold Oper.wp execOp
    simp only [ho, hx, hy, Instr.storeAt, Instr.sureAddr, Sem.run_bind, Sem.run_pure, Result.andThen_ok, hr]
    exact hK _ _ h
end
structure ClsSt (w0 wr : World) (Bm : Nat) (V : CV) (c : S33) (i : Nat) : Prop where
  bel : Below w0.heap.size w0 wr
  at_ : At wr w0.heap.size V c
  map : MapC wr Bm (cntP c.f3 i)
theorem ClsSt.below {w0 wr w1 : World} {Bm : Nat} {V : CV} {c : S33} {i : Nat} (h : ClsSt w0 wr Bm V c i) (hB : Below wr.heap.size wr w1) : ClsSt w0 w1 Bm V c i := ⟨h.bel.trans (hB.mono h.bel.size), h.at_.below hB, h.map.below hB⟩
theorem extV_at (c : S33) (i : Nat) (h : i < c.f3.length) : extV c (i : Int) = extAt c.f3 i := by
  unfold extV extAt
  rw [Int.toNat_natCast]
  simp [h]
set_option maxRecDepth 1000000 in
set_option maxHeartbeats 4000000 in
theorem class_calls (V : CV) (c : S33) (w : World) (h : Cf w V c) (hg : GlobAt w) : Calls Tryd.prog 10 #[.agg (arr V c)] w fun e w' => e = .returned (.tuple #[.int .i64 (classV c).1, .int .i64 (classV c).2]) ∧ Below w.heap.size w w' := by
  have HG := Aside0.mk (hg.below (below_a w (.cells (arr V c) 33)))
  have HA := Aside0.mk (At.made h)
  have HB := Aside0.mk (below_a w (.cells (arr V c) 33))
  have hlen := h.bd.t
  have HCF := Aside0.mk h
  clear h hg
  go_enter Tryd.func10, Tryd.ntmps10
  unfold arr at *
  go_wp2_with (refine load33 HA.out rfl (.tmp 1) rfl rfl ?_)
  generalize w.alloc (.cells #[.string c.f0, .string c.f1.f0, .bool c.f1.f1, .bool c.f1.f2, .bool c.f1.f3, .bool c.f1.f4, .bool c.f1.f5, .bool c.f1.f6, .bool c.f1.f7, .bool c.f1.f8, .slice V.a10 c.f2.length V.k10, .slice V.a11 c.f3.length V.k11, .slice V.a12 c.f4.length V.k12, .slice V.a13 c.f5.length V.k13, .slice V.a14 c.f6.length V.k14, .slice V.a15 c.f7.length V.k15, .slice V.a16 c.f8.length V.k16, .slice V.a17 c.f9.length V.k17] 33) = w1 at *
  have hck := check_v V c w1 HA.out.cf HG.out
  unfold arr at hck
  refine hck.mono ?_
  clear hck
  rintro e w2 ⟨rfl, B2⟩
  have HA2 := Aside0.mk (HA.out.below B2)
  have HB2 := Aside0.mk (HB.out.trans (B2.mono HB.out.size))
  have HCV := Aside0.mk (show classV c = if eqV (verV c) okVer then (classK c.f3, 0) else (0, 2) from rfl)
  have HOK := Aside0.mk (fun (hv : verV c = okVer) i (hi : i < c.f3.length) => (task_fine hv i hi).1)
  clear B2 HA HB HG
  generalize verV c = v at *
  rcases he : eqV v okVer with _ | _
  · have HX := Aside0.mk (show classV c = (0, 2) from by rw [HCV.out, he]; rfl)
    have hne : (!eqV v okVer) = true := by rw [he]; rfl
    clear HOK HCV
    go_wp2_with (refine Kd.event_run rfl (v := .bool true) (hne ▸ run_neq36 _ v okVer (.tmp 10) (.tmp 11) rfl rfl rfl) ?_)
    go_ret2
    exact ⟨by rw [HX.out] <;> rfl, HB2.out⟩
  · have HX := Aside0.mk (show classV c = (classK c.f3, 0) from by rw [HCV.out, he]; rfl)
    have hne : (!eqV v okVer) = false := by rw [he]; rfl
    have HOK := Aside0.mk (HOK.out (eqV_iff.mp he))
    clear HCV
    have hmm := @run_makeMap Tryd.prog
    have HS := Aside0.mk (show ClsSt w (w2.alloc (.map #[] 0)) w2.heap.size V c 0 from ⟨HB2.out.alloc HB2.out.size _, HA2.out.below (below_a _ _), mapC_new w2⟩)
    have HBM := Aside0.mk (show w.heap.size < w2.heap.size from blk_lt HA2.out.box)
    have c11 := HS.out.at_.cell11
    go_wp2_with (refine Kd.event_run rfl (v := .bool false) (hne ▸ run_neq36 _ v okVer (.tmp 10) (.tmp 11) rfl rfl rfl) ?_)
    clear hmm hne he c11 HA2 HB2
    generalize w2.alloc (.map #[] 0) = w3 at *
    generalize w2.heap.size = Bm at *
    go_loopw [4, 5, 17] (fun sv ev iv wr => ∃ (i : Nat) (s e : Bool), i ≤ c.f3.length ∧ iv = .int .i64 i ∧ sv = .bool s ∧ ev = .bool e ∧ Aside0 (s = single c.f3 i ∧ e = extd c.f3 i) ∧ Aside0 (ClsSt w wr Bm V c i)) (fun _ _ iv _ => c.f3.length - (intOf iv).toNat)
    case atStart => exact ⟨0, true, false, by omega, rfl, rfl, rfl, ⟨rfl, rfl⟩, HS⟩
    case round =>
      clear HS
      obtain ⟨i, s, e, hi, rfl, rfl, rfl, HSE, HS⟩ := hrel
      by_cases hlt : i < c.f3.length
      · have hd : decide ((i : Int) < (c.f3.length : Int)) = true := decide_eq_true (by omega)
        obtain ⟨t, ad, A4, c4, A5, c5, A6, c6, A7, c7, ht, e11, HA, l4, g4, l5, g5, l6, g6, l7, g7⟩ := task_at HS.out.at_.cf.t i hlt
        have hwf : (Lit.int .i64 t.f1).wf = true := by
          have := HOK.out i hlt
          rw [ht] at this
          unfold taskVal at this
          simp only [Bool.and_eq_true, decide_eq_true_eq] at this
          exact WalkArith.wf_i64 (by omega)
        have HAX := Aside0.mk HA
        have HW := Aside0.mk hwf
        have HN := Aside0.mk (show cntP c.f3 (i + 1) = fun q => if q = t.f1 then cntP c.f3 i t.f1 + 1 else cntP c.f3 i q from by rw [cntP_succ, ht])
        have hcn := cntP_le c.f3 i t.f1
        have HO := Aside0.mk (show oneB c.f3 i = (t.f3 == 1 && cntP c.f3 i t.f1 + 1 == 1) from by unfold oneB; rw [HN.out, ht]; simp)
        have HXE := Aside0.mk (extV_at c i hlt)
        have HSI := Aside0.mk (single_succ c.f3 i)
        have HEI := Aside0.mk (extd_succ c.f3 i)
        have HG := Aside0.mk (mapC_get HS.out.map t.f1 hwf)
        rw [e11]
        clear ht e11 HA l4 g4 l5 g5 l6 g6 l7 g7 hwf
        have HB1 := Aside0.mk (below_a wr (.cells #[.string t.f0, .int .i64 t.f1, .bool t.f2, .int .i64 t.f3, .slice A4 t.f4.length c4, .slice A5 t.f5.length c5, .slice A6 t.f6.length c6, .slice A7 t.f7.length c7] 49))
        have HCL := Aside0.mk (heap_alloc_new wr (.cells #[.string t.f0, .int .i64 t.f1, .bool t.f2, .int .i64 t.f3, .slice A4 t.f4.length c4, .slice A5 t.f5.length c5, .slice A6 t.f6.length c6, .slice A7 t.f7.length c7] 49))
        have HBL := Aside0.mk (mapC_lt HS.out.map)
        go_wp2_with (first | (refine load49 HAX.out rfl (.tmp 20) rfl rfl ?_) | (refine store49 (by rfl) #[.string t.f0, .int .i64 t.f1, .bool t.f2, .int .i64 t.f3, .slice A4 t.f4.length c4, .slice A5 t.f5.length c5, .slice A6 t.f6.length c6, .slice A7 t.f7.length c7] (by rfl) (by simp [Value.oneCell']) (by rfl) (.tmp 8) (.tmp 21) (by rfl) (by rfl) (by rfl) ?_))
        generalize wr.alloc (.cells #[.string t.f0, .int .i64 t.f1, .bool t.f2, .int .i64 t.f3, .slice A4 t.f4.length c4, .slice A5 t.f5.length c5, .slice A6 t.f6.length c6, .slice A7 t.f7.length c7] 49) = wx at *
        have HMX := Aside0.mk (HS.out.map.below HB1.out)
        have HAT := Aside0.mk (HS.out.at_.below HB1.out)
        have HBX := Aside0.mk (HS.out.bel.trans (HB1.out.mono HS.out.bel.size))
        obtain ⟨w4, hup, hm4, hg4⟩ := mapC_put HMX.out t.f1 (cntP c.f3 i t.f1 + 1) HW.out
        rw [← HN.out] at hm4
        have hlk := mapC_get HMX.out t.f1 HW.out
        have hl4 := mapC_get hm4 t.f1 HW.out
        rw [congrFun HN.out t.f1, if_pos rfl] at hl4
        have HS4 := Aside0.mk (show ClsSt w w4 Bm V c (i + 1) from ⟨HBX.out.grown hg4 HBX.out.size (fun j hj => by injection hj with hj; have := HBM.out; omega), ⟨(hg4.block _ (blk_lt HAT.out.box) (fun e => by injection e with e; have := HBM.out; omega)).trans HAT.out.box, HCF.out.below (HBX.out.grown hg4 HBX.out.size (fun j hj => by injection hj with hj; have := HBM.out; omega))⟩, hm4⟩)
        have HC4 := Aside0.mk ((hg4.block _ (blk_lt HCL.out) (fun e => by injection e with e; have := HBL.out; omega)).trans HCL.out)
        have y1 : w4.cell? ⟨wr.heap.size, 1, none⟩ = some (.int .i64 t.f1) := by have := cell_of (j := 1) HC4.out rfl; exact this
        have y3 : w4.cell? ⟨wr.heap.size, 3, none⟩ = some (.int .i64 t.f3) := by have := cell_of (j := 3) HC4.out rfl; exact this
        have z1 : wx.cell? ⟨wr.heap.size, 1, none⟩ = some (.int .i64 t.f1) := by have := cell_of (j := 1) HCL.out rfl; exact this
        have hw : IntKind.i64.wrap (cntP c.f3 i t.f1 + 1) = cntP c.f3 i t.f1 + 1 := by rw [IntWalk.i64_in _ (by omega)]
        generalize cntP c.f3 i t.f1 = cn at *
        clear HB1 HCL HMX HAT HBX hm4 hg4 HC4 HN HG HS
        simp only [hlk, Result.andThen_ok]
        have HR := Aside0.mk (show ∀ s' e', s' = (s && (t.f3 == 1 && cn + 1 == 1)) → e' = (e || extV c (i : Int)) → s' = single c.f3 (i + 1) ∧ e' = extd c.f3 (i + 1) from fun s' e' h1 h2 => ⟨by rw [h1, HSI.out, HO.out, ← HSE.out.1], by rw [h2, HEI.out, HXE.out, ← HSE.out.2]⟩)
        clear HO HSI HEI HXE HSE HW HAX HBM HBL HOK
        rcases s with _ | _
        · rcases e with _ | _
          · go_wp2_with ((with_reducible refine gate_dst (N := 42) rfl ?_); (refine gate_guard (by rfl) ?_; dsimp only); refine load33 HS4.out.at_ rfl (.tmp 1) rfl rfl ?_)
            have hx := ext_calls 12 (.inl rfl) V c (i : Int) w4 HS4.out.at_.cf
            unfold arr at hx
            refine hx.mono ?_
            clear hx
            rintro e w5 ⟨rfl, B5⟩
            have HS5 := Aside0.mk (HS4.out.below B5)
            clear B5 HS4 hup hlk hl4 y1 y3 z1
            generalize extV c (i : Int) = xv at *
            go_wp2_with fail
            all_goals
              go_roundw
              case rel => exact ⟨i + 1, _, _, by omega, by go_num, rfl, rfl, ⟨HR.out _ _ rfl rfl⟩, HS5⟩
              case measure => simp [intOf]; omega
          · go_wp2_with fail
            go_roundw
            case rel => exact ⟨i + 1, _, _, by omega, by go_num, rfl, rfl, ⟨HR.out _ _ rfl rfl⟩, HS4⟩
            case measure => simp [intOf]; omega
        · rcases b3 : (t.f3 == 1) with _ | _
          · rcases e with _ | _
            · go_wp2_with ((with_reducible refine gate_dst (N := 42) rfl ?_); (refine gate_guard (by rfl) ?_; dsimp only); refine load33 HS4.out.at_ rfl (.tmp 1) rfl rfl ?_)
              have hx := ext_calls 12 (.inl rfl) V c (i : Int) w4 HS4.out.at_.cf
              unfold arr at hx
              refine hx.mono ?_
              clear hx
              rintro e w5 ⟨rfl, B5⟩
              have HS5 := Aside0.mk (HS4.out.below B5)
              clear B5 HS4 hup hlk hl4 y1 y3 z1
              generalize extV c (i : Int) = xv at *
              go_wp2_with fail
              all_goals
                go_roundw
                case rel => exact ⟨i + 1, _, _, by omega, by go_num, rfl, rfl, ⟨HR.out _ _ (by rw [b3]; rfl) rfl⟩, HS5⟩
                case measure => simp [intOf]; omega
            · go_wp2_with fail
              go_roundw
              case rel => exact ⟨i + 1, _, _, by omega, by go_num, rfl, rfl, ⟨HR.out _ _ (by rw [b3]; rfl) rfl⟩, HS4⟩
              case measure => simp [intOf]; omega
          · rcases bc : (cn + 1 == 1) with _ | _
            · rcases e with _ | _
              · go_wp2_with ((with_reducible refine gate_dst (N := 42) rfl ?_); (refine gate_guard (by rfl) ?_; dsimp only); refine load33 HS4.out.at_ rfl (.tmp 1) rfl rfl ?_)
                have hx := ext_calls 12 (.inl rfl) V c (i : Int) w4 HS4.out.at_.cf
                unfold arr at hx
                refine hx.mono ?_
                clear hx
                rintro e w5 ⟨rfl, B5⟩
                have HS5 := Aside0.mk (HS4.out.below B5)
                clear B5 HS4 hup hlk hl4 y1 y3 z1
                generalize extV c (i : Int) = xv at *
                go_wp2_with fail
                all_goals
                  go_roundw
                  case rel => exact ⟨i + 1, _, _, by omega, by go_num, rfl, rfl, ⟨HR.out _ _ (by rw [b3, bc]; rfl) rfl⟩, HS5⟩
                  case measure => simp [intOf]; omega
              · go_wp2_with fail
                go_roundw
                case rel => exact ⟨i + 1, _, _, by omega, by go_num, rfl, rfl, ⟨HR.out _ _ (by rw [b3, bc]; rfl) rfl⟩, HS4⟩
                case measure => simp [intOf]; omega
            · rcases e with _ | _
              · go_wp2_with ((with_reducible refine gate_dst (N := 42) rfl ?_); (refine gate_guard (by rfl) ?_; dsimp only); refine load33 HS4.out.at_ rfl (.tmp 1) rfl rfl ?_)
                have hx := ext_calls 12 (.inl rfl) V c (i : Int) w4 HS4.out.at_.cf
                unfold arr at hx
                refine hx.mono ?_
                clear hx
                rintro e w5 ⟨rfl, B5⟩
                have HS5 := Aside0.mk (HS4.out.below B5)
                clear B5 HS4 hup hlk hl4 y1 y3 z1
                generalize extV c (i : Int) = xv at *
                go_wp2_with fail
                all_goals
                  go_roundw
                  case rel => exact ⟨i + 1, _, _, by omega, by go_num, rfl, rfl, ⟨HR.out _ _ (by rw [b3, bc]; rfl) rfl⟩, HS5⟩
                  case measure => simp [intOf]; omega
              · go_wp2_with fail
                go_roundw
                case rel => exact ⟨i + 1, _, _, by omega, by go_num, rfl, rfl, ⟨HR.out _ _ (by rw [b3, bc]; rfl) rfl⟩, HS4⟩
                case measure => simp [intOf]; omega
      · have hd : decide ((i : Int) < (c.f3.length : Int)) = false := decide_eq_false (by omega)
        have HK := Aside0.mk (show classV c = ((if e then (if s then 3 else 4) else if s then 1 else 2), 0) from by
          rw [HX.out]
          unfold classK
          rw [show c.f3.length = i by omega, ← HSE.out.1, ← HSE.out.2])
        clear HX HSE HOK
        rcases s with _ | _
        · rcases e with _ | _
          · go_wp2_with fail
            go_ret2
            exact ⟨by rw [HK.out] <;> rfl, HS.out.bel⟩
          · go_wp2_with fail
            go_ret2
            exact ⟨by rw [HK.out] <;> rfl, HS.out.bel⟩
        · rcases e with _ | _
          · go_wp2_with fail
            go_ret2
            exact ⟨by rw [HK.out] <;> rfl, HS.out.bel⟩
          · go_wp2_with fail
            go_ret2
            exact ⟨by rw [HK.out] <;> rfl, HS.out.bel⟩
end Go.Proofs.YthckjbmgeidkgaaDoor.XA
