/- the document's rows: resources, counters. -/
import Derived.Test.YthckjbmgeidkgaaDoorHClass
import Derived.Deep.DeepCutAuto
namespace Go.Proofs.YthckjbmgeidkgaaDoor.XA
set_option linter.unusedVariables false
set_option linter.unusedSimpArgs false
open Go.RowKit Go.WideMaps Go.Maps Go.Proofs.YthckjbmgeidkgaaDoorW.PrintWords Go.Proofs.YthckjbmgeidkgaaDoorW.PrintLast Go.Proofs.YthckjbmgeidkgaaDoorW.PrintMore
section
variable {ops : Array Oper} {rest : List Oper} {o : Oper} {a : Act}
theorem store65 {Q : Exit → Act → World → Prop} {w : World} {z : Array Value} (hz : z.size = 3) (cs : Array Value) (hcs : cs.size = 3) (h1 : cs.all (·.oneCell') = true) (hgd : o.guard = none) (x y : Operand) (ho : o.op = .store 65 x y) (hx : a.eval x = .pointer (some ⟨w.heap.size, 0, none⟩)) (hy : a.eval y = .agg cs)
    (h : wpList Tryd.prog ops Q rest (a.put o.dst undef) (w.alloc (.cells cs 65))) : wpList Tryd.prog ops Q (o :: rest) a (w.alloc (.cells z 65)) :=
  wpList_plain hgd fun _ hK => by
    have hr := run_storeVar_new (P := Tryd.prog) w 65 z cs (by rw [hcs]; kernel_rfl) (by omega) h1
    unfold Oper.wp execOp
    simp only [ho, hx, hy, Instr.storeAt, Instr.sureAddr, Sem.run_bind, Sem.run_pure, Result.andThen_ok, hr]
    exact hK _ _ h
theorem store62 {Q : Exit → Act → World → Prop} {w : World} {z : Array Value} (hz : z.size = 4) (cs : Array Value) (hcs : cs.size = 4) (h1 : cs.all (·.oneCell') = true) (hgd : o.guard = none) (x y : Operand) (ho : o.op = .store 62 x y) (hx : a.eval x = .pointer (some ⟨w.heap.size, 0, none⟩)) (hy : a.eval y = .agg cs)
    (h : wpList Tryd.prog ops Q rest (a.put o.dst undef) (w.alloc (.cells cs 62))) : wpList Tryd.prog ops Q (o :: rest) a (w.alloc (.cells z 62)) :=
  wpList_plain hgd fun _ hK => by
    have hr := run_storeVar_new (P := Tryd.prog) w 62 z cs (by rw [hcs]; kernel_rfl) (by omega) h1
    unfold Oper.wp execOp
    simp only [ho, hx, hy, Instr.storeAt, Instr.sureAddr, Sem.run_bind, Sem.run_pure, Result.andThen_ok, hr]
    exact hK _ _ h
theorem store60 {Q : Exit → Act → World → Prop} {w : World} {z : Array Value} (hz : z.size = 9) (cs : Array Value) (hcs : cs.size = 9) (h1 : cs.all (·.oneCell') = true) (hgd : o.guard = none) (x y : Operand) (ho : o.op = .store 60 x y) (hx : a.eval x = .pointer (some ⟨w.heap.size, 0, none⟩)) (hy : a.eval y = .agg cs)
    (h : wpList Tryd.prog ops Q rest (a.put o.dst undef) (w.alloc (.cells cs 60))) : wpList Tryd.prog ops Q (o :: rest) a (w.alloc (.cells z 60)) :=
  wpList_plain hgd fun _ hK => by
    have hr := run_storeVar_new (P := Tryd.prog) w 60 z cs (by rw [hcs]; kernel_rfl) (by omega) h1
    unfold Oper.wp execOp
    simp only [ho, hx, hy, Instr.storeAt, Instr.sureAddr, Sem.run_bind, Sem.run_pure, Result.andThen_ok, hr]
    exact hK _ _ h
theorem store55 {Q : Exit → Act → World → Prop} {w : World} {z : Array Value} (hz : z.size = 5) (cs : Array Value) (hcs : cs.size = 5) (h1 : cs.all (·.oneCell') = true) (hgd : o.guard = none) (x y : Operand) (ho : o.op = .store 55 x y) (hx : a.eval x = .pointer (some ⟨w.heap.size, 0, none⟩)) (hy : a.eval y = .agg cs)
    (h : wpList Tryd.prog ops Q rest (a.put o.dst undef) (w.alloc (.cells cs 55))) : wpList Tryd.prog ops Q (o :: rest) a (w.alloc (.cells z 55)) :=
  wpList_plain hgd fun _ hK => by
    have hr := run_storeVar_new (P := Tryd.prog) w 55 z cs (by rw [hcs]; kernel_rfl) (by omega) h1
    unfold Oper.wp execOp
    simp only [ho, hx, hy, Instr.storeAt, Instr.sureAddr, Sem.run_bind, Sem.run_pure, Result.andThen_ok, hr]
    exact hK _ _ h
theorem store91 {Q : Exit → Act → World → Prop} {w : World} {z : Array Value} (hz : z.size = 10) (cs : Array Value) (hcs : cs.size = 10) (h1 : cs.all (·.oneCell') = true) (hgd : o.guard = none) (x y : Operand) (ho : o.op = .store 91 x y) (hx : a.eval x = .pointer (some ⟨w.heap.size, 0, none⟩)) (hy : a.eval y = .agg cs)
    (h : wpList Tryd.prog ops Q rest (a.put o.dst undef) (w.alloc (.cells cs 91))) : wpList Tryd.prog ops Q (o :: rest) a (w.alloc (.cells z 91)) :=
  wpList_plain hgd fun _ hK => by
    have hr := run_storeVar_new (P := Tryd.prog) w 91 z cs (by rw [hcs]; kernel_rfl) (by omega) h1
    unfold Oper.wp execOp
    simp only [ho, hx, hy, Instr.storeAt, Instr.sureAddr, Sem.run_bind, Sem.run_pure, Result.andThen_ok, hr]
    exact hK _ _ h
end
theorem box_at {w : World} {cs : List Value} {e : Nat} (j : Nat) (v : Value) (hj : cs[j]? = some v) : (w.alloc (.cells cs.toArray e)).cell? ((⟨w.heap.size, 0, none⟩ : Addr).add j) = some v :=
  cell_of (cs := cs.toArray) (e := e) (heap_alloc_new w (.cells cs.toArray e)) (by simpa using hj)
theorem box65 (w : World) (t : S65) : At65 (w.alloc (.cells #[.string t.f0, .int .i64 t.f1, .int .i64 t.f2] 65)) ⟨w.heap.size, 0, none⟩ t := ⟨fun j v hj => box_at j v hj⟩
theorem box62 (w : World) (t : S62) : At62 (w.alloc (.cells #[.string t.f0, .int .u32 t.f1, .int .u32 t.f2, .int .u32 t.f3] 62)) ⟨w.heap.size, 0, none⟩ t := ⟨fun j v hj => box_at j v hj⟩
/-- the document's row of an object -/
def RChk (f : Nat) (n : S33 → Nat) (E : S33 → Nat → Int) : Prop := ∀ (w : World) (V : CV) (c : S33) (i : Nat), Cf w V c → i < n c →
  Calls Tryd.prog f #[.agg (arr V c), .int .i64 i] w fun e w' => e = .returned (.int .i64 (E c i)) ∧ Below w.heap.size w w'
theorem errF1 (E : S33 → Nat → Int) (c : S33) (i : Nat) : errF [E] c i = E c i := by
  unfold errF errF
  by_cases h : E c i ≠ 0
  · rw [if_pos h]
  · rw [if_neg h]
    omega
set_option maxRecDepth 1000000 in
set_option maxHeartbeats 4000000 in
theorem counter_calls : RChk 73 (fun c => c.f6.length) (errF [eCtrVal]) := by
  intro w V c i h hi
  have HS := Aside0.mk (At.made h)
  have HB := Aside0.mk (below_a w (.cells (arr V c) 33))
  have HE := Aside0.mk (show errF [eCtrVal] c i = if ctrVal (c.f6.getD i z62) then 0 else 74 from by rw [errF1]; rfl)
  clear h
  go_enter Tryd.func73, Tryd.ntmps73
  unfold arr at *
  go_upto_region 1 with fail
  generalize w.alloc (.cells #[.string c.f0, .string c.f1.f0, .bool c.f1.f1, .bool c.f1.f2, .bool c.f1.f3, .bool c.f1.f4, .bool c.f1.f5, .bool c.f1.f6, .bool c.f1.f7, .bool c.f1.f8, .slice V.a10 c.f2.length V.k10, .slice V.a11 c.f3.length V.k11, .slice V.a12 c.f4.length V.k12, .slice V.a13 c.f5.length V.k13, .slice V.a14 c.f6.length V.k14, .slice V.a15 c.f7.length V.k15, .slice V.a16 c.f8.length V.k16, .slice V.a17 c.f9.length V.k17] 33) = w1 at *
  obtain ⟨t, ad, ht, e, HA⟩ := ctr_at HS.out.cf.x i hi
  have q14 := HS.out.cell14
  rw [e] at q14
  rw [ht] at HE
  have HAX := Aside0.mk HA
  have HX := Aside0.mk (box62 w1 t)
  have HB := Aside0.mk (HB.out.trans ((below_a w1 (.cells #[.string t.f0, .int .u32 t.f1, .int .u32 t.f2, .int .u32 t.f3] 62)).mono HB.out.size))
  clear ht HA e
  go_upto_region 2 with (first | (refine load62 HAX.out rfl (.tmp 9) rfl rfl ?_) | (refine store62 (by rfl) #[.string t.f0, .int .u32 t.f1, .int .u32 t.f2, .int .u32 t.f3] (by rfl) (by simp [Value.oneCell']) (by rfl) (.tmp 5) (.tmp 10) (by rfl) (by rfl) (by rfl) ?_))
  clear q14 HAX HS
  generalize w1.alloc (.cells #[.string t.f0, .int .u32 t.f1, .int .u32 t.f2, .int .u32 t.f3] 62) = w2 at *
  generalize w1.heap.size = P at *
  have g1 := HX.out.g1
  have g2 := HX.out.g2
  have g3 := HX.out.g3
  by_cases h1 : t.f1 < 1
  · have P1 := Aside0.mk h1
    have b1 : decide (t.f1 < 1) = true := decide_eq_true h1
    clear h1
    have HK := Aside0.mk (show errF [eCtrVal] c i = 74 from by rw [HE.out]; have h1 := P1.out; simp [ctrVal, tickB, h1] <;> omega)
    go_wp2_with (fail)
    go_ret
    exact ⟨by rw [HK.out] <;> rfl, HB.out⟩
  · have P1 := Aside0.mk h1
    have b1 : decide (t.f1 < 1) = false := decide_eq_false h1
    clear h1
    by_cases h2 : 2147483647 < t.f1
    · have P2 := Aside0.mk h2
      have b2 : decide (2147483647 < t.f1) = true := decide_eq_true h2
      clear h2
      have HK := Aside0.mk (show errF [eCtrVal] c i = 74 from by rw [HE.out]; have h1 := P1.out; have h2 := P2.out; simp [ctrVal, tickB, h1, h2] <;> omega)
      go_wp2_with (fail)
      go_ret
      exact ⟨by rw [HK.out] <;> rfl, HB.out⟩
    · have P2 := Aside0.mk h2
      have b2 : decide (2147483647 < t.f1) = false := decide_eq_false h2
      clear h2
      by_cases h3 : t.f2 < 1
      · have P3 := Aside0.mk h3
        have b3 : decide (t.f2 < 1) = true := decide_eq_true h3
        clear h3
        have HK := Aside0.mk (show errF [eCtrVal] c i = 74 from by rw [HE.out]; have h1 := P1.out; have h2 := P2.out; have h3 := P3.out; simp [ctrVal, tickB, h1, h2, h3] <;> omega)
        go_wp2_with (fail)
        go_ret
        exact ⟨by rw [HK.out] <;> rfl, HB.out⟩
      · have P3 := Aside0.mk h3
        have b3 : decide (t.f2 < 1) = false := decide_eq_false h3
        clear h3
        by_cases h4 : 2147483647 < t.f2
        · have P4 := Aside0.mk h4
          have b4 : decide (2147483647 < t.f2) = true := decide_eq_true h4
          clear h4
          have HK := Aside0.mk (show errF [eCtrVal] c i = 74 from by rw [HE.out]; have h1 := P1.out; have h2 := P2.out; have h3 := P3.out; have h4 := P4.out; simp [ctrVal, tickB, h1, h2, h3, h4] <;> omega)
          go_wp2_with (fail)
          go_ret
          exact ⟨by rw [HK.out] <;> rfl, HB.out⟩
        · have P4 := Aside0.mk h4
          have b4 : decide (2147483647 < t.f2) = false := decide_eq_false h4
          clear h4
          by_cases h5 : t.f3 < 1
          · have P5 := Aside0.mk h5
            have b5 : decide (t.f3 < 1) = true := decide_eq_true h5
            clear h5
            have HK := Aside0.mk (show errF [eCtrVal] c i = 74 from by rw [HE.out]; have h1 := P1.out; have h2 := P2.out; have h3 := P3.out; have h4 := P4.out; have h5 := P5.out; simp [ctrVal, tickB, h1, h2, h3, h4, h5] <;> omega)
            go_wp2_with (fail)
            go_ret
            exact ⟨by rw [HK.out] <;> rfl, HB.out⟩
          · have P5 := Aside0.mk h5
            have b5 : decide (t.f3 < 1) = false := decide_eq_false h5
            clear h5
            by_cases h6 : t.f1 < t.f3
            · have P6 := Aside0.mk h6
              have b6 : decide (t.f1 < t.f3) = true := decide_eq_true h6
              clear h6
              have HK := Aside0.mk (show errF [eCtrVal] c i = 74 from by rw [HE.out]; have h1 := P1.out; have h2 := P2.out; have h3 := P3.out; have h4 := P4.out; have h5 := P5.out; have h6 := P6.out; simp [ctrVal, tickB, h1, h2, h3, h4, h5, h6] <;> omega)
              go_wp2_with (fail)
              go_ret
              exact ⟨by rw [HK.out] <;> rfl, HB.out⟩
            · have P6 := Aside0.mk h6
              have b6 : decide (t.f1 < t.f3) = false := decide_eq_false h6
              clear h6
              have HK := Aside0.mk (show errF [eCtrVal] c i = 0 from by rw [HE.out]; have h1 := P1.out; have h2 := P2.out; have h3 := P3.out; have h4 := P4.out; have h5 := P5.out; have h6 := P6.out; simp [ctrVal, tickB, h1, h2, h3, h4, h5, h6] <;> omega)
              go_wp2_with (fail)
              go_ret
              exact ⟨by rw [HK.out] <;> rfl, HB.out⟩
set_option maxRecDepth 1000000 in
set_option maxHeartbeats 4000000 in
theorem resource_calls : RChk 71 (fun c => c.f4.length) (errF [eResVal, eResLink, eResEnds]) := by
  intro w V c i h hi
  have HS := Aside0.mk (At.made h)
  have HB := Aside0.mk (below_a w (.cells (arr V c) 33))
  have HE := Aside0.mk (show errF [eResVal, eResLink, eResEnds] c i = if resVal (c.f4.getD i z65) = false then 74 else if resLink c.f4.length (c.f4.getD i z65) = false then 73 else if resEnds c.f4 i = false then 70 else 0 from by
    unfold errF errF errF errF eResVal eResLink eResEnds
    cases resVal (c.f4.getD i z65) <;> cases resLink c.f4.length (c.f4.getD i z65) <;> cases resEnds c.f4 i <;> rfl)
  clear h
  go_enter Tryd.func71, Tryd.ntmps71
  unfold arr at *
  go_upto_region 1 with fail
  generalize w.alloc (.cells #[.string c.f0, .string c.f1.f0, .bool c.f1.f1, .bool c.f1.f2, .bool c.f1.f3, .bool c.f1.f4, .bool c.f1.f5, .bool c.f1.f6, .bool c.f1.f7, .bool c.f1.f8, .slice V.a10 c.f2.length V.k10, .slice V.a11 c.f3.length V.k11, .slice V.a12 c.f4.length V.k12, .slice V.a13 c.f5.length V.k13, .slice V.a14 c.f6.length V.k14, .slice V.a15 c.f7.length V.k15, .slice V.a16 c.f8.length V.k16, .slice V.a17 c.f9.length V.k17] 33) = w1 at *
  obtain ⟨t, ad, ht, e, HA⟩ := res_at HS.out.cf.r i hi
  have q12 := HS.out.cell12
  rw [e] at q12
  unfold resEnds kindR rootV at HE
  rw [ht] at HE
  have HAX := Aside0.mk HA
  have HX := Aside0.mk (box65 w1 t)
  have HB := Aside0.mk (HB.out.trans ((below_a w1 (.cells #[.string t.f0, .int .i64 t.f1, .int .i64 t.f2] 65)).mono HB.out.size))
  have HS2 := Aside0.mk (HS.out.below (below_a w1 (.cells #[.string t.f0, .int .i64 t.f1, .int .i64 t.f2] 65)))
  have HEE := Aside0.mk e
  clear ht HA e
  go_upto_region 2 with (first | (refine load65 HAX.out rfl (.tmp 10) rfl rfl ?_) | (refine store65 (by rfl) #[.string t.f0, .int .i64 t.f1, .int .i64 t.f2] (by rfl) (by simp [Value.oneCell']) (by rfl) (.tmp 5) (.tmp 11) (by rfl) (by rfl) (by rfl) ?_))
  clear q12 HAX HS
  generalize w1.alloc (.cells #[.string t.f0, .int .i64 t.f1, .int .i64 t.f2] 65) = w2 at *
  generalize w1.heap.size = P at *
  have g1 := HX.out.g1
  have g2 := HX.out.g2
  have q12 := HS2.out.cell12
  rw [HEE.out] at q12
  clear HEE
  by_cases h1 : t.f1 < 1
  · have P1 := Aside0.mk h1
    have b1 : decide (t.f1 < 1) = true := decide_eq_true h1
    clear h1
    have HK := Aside0.mk (show errF [eResVal, eResLink, eResEnds] c i = 74 from by rw [HE.out]; have h1 := P1.out; simp [resVal, resLink, h1] <;> omega)
    go_wp2_with (fail)
    go_ret
    exact ⟨by rw [HK.out] <;> rfl, HB.out⟩
  · have P1 := Aside0.mk h1
    have b1 : decide (t.f1 < 1) = false := decide_eq_false h1
    clear h1
    by_cases h2 : 3 < t.f1
    · have P2 := Aside0.mk h2
      have b2 : decide (3 < t.f1) = true := decide_eq_true h2
      clear h2
      have HK := Aside0.mk (show errF [eResVal, eResLink, eResEnds] c i = 74 from by rw [HE.out]; have h1 := P1.out; have h2 := P2.out; simp [resVal, resLink, h1, h2] <;> omega)
      go_wp2_with (fail)
      go_ret
      exact ⟨by rw [HK.out] <;> rfl, HB.out⟩
    · have P2 := Aside0.mk h2
      have b2 : decide (3 < t.f1) = false := decide_eq_false h2
      clear h2
      by_cases h3 : t.f1 = 2
      · have P3 := Aside0.mk h3
        have b3 : (t.f1 == 2) = true := by rw [beq_iff_eq]; exact h3
        have b3x : (t.f1 != 2) = false := by rw [bne_eq_false_iff_eq]; exact h3
        clear h3
        by_cases h4 : t.f2 < 0
        · have P4 := Aside0.mk h4
          have b4 : decide (t.f2 < 0) = true := decide_eq_true h4
          clear h4
          have HK := Aside0.mk (show errF [eResVal, eResLink, eResEnds] c i = 73 from by rw [HE.out]; have h1 := P1.out; have h2 := P2.out; have h3 := P3.out; have h4 := P4.out; simp [resVal, resLink, h1, h2, h3, h4] <;> omega)
          go_wp2_with (fail)
          go_ret
          exact ⟨by rw [HK.out] <;> rfl, HB.out⟩
        · have P4 := Aside0.mk h4
          have b4 : decide (t.f2 < 0) = false := decide_eq_false h4
          clear h4
          by_cases h5 : (c.f4.length : Int) ≤ t.f2
          · have P5 := Aside0.mk h5
            have b5 : decide ((c.f4.length : Int) ≤ t.f2) = true := decide_eq_true h5
            clear h5
            have HK := Aside0.mk (show errF [eResVal, eResLink, eResEnds] c i = 73 from by rw [HE.out]; have h1 := P1.out; have h2 := P2.out; have h3 := P3.out; have h4 := P4.out; have h5 := P5.out; simp [resVal, resLink, h1, h2, h3, h4, h5] <;> omega)
            go_wp2_with (fail)
            go_ret
            exact ⟨by rw [HK.out] <;> rfl, HB.out⟩
          · have P5 := Aside0.mk h5
            have b5 : decide ((c.f4.length : Int) ≤ t.f2) = false := decide_eq_false h5
            clear h5
            go_wp2_with (first | ((with_reducible refine gate_dst (N := 44) rfl ?_); refine load33 HS2.out rfl (.tmp 2) rfl rfl ?_))
            have hrc := rootR_calls V c i w2 HS2.out.cf
            unfold arr at hrc
            refine hrc.mono ?_
            clear hrc
            rintro e w3 ⟨rfl, B3⟩
            have HB := Aside0.mk (HB.out.trans (B3.mono HB.out.size))
            have HS3 := Aside0.mk (HS2.out.below B3)
            clear B3 HS2 q12 g1 g2 HX
            have hr := rootI_range c.f4 (c.f4.length + 1) i
            unfold rootV at *
            generalize rootI c.f4 (c.f4.length + 1) i = r at *
            by_cases h6 : r < 0
            · have P6 := Aside0.mk h6
              have b6 : decide (r < 0) = true := decide_eq_true h6
              clear h6
              have HK := Aside0.mk (show errF [eResVal, eResLink, eResEnds] c i = 70 from by rw [HE.out]; have h1 := P1.out; have h2 := P2.out; have h3 := P3.out; have h4 := P4.out; have h5 := P5.out; have h6 := P6.out; simp [resVal, resLink, h1, h2, h3, h4, h5, h6] <;> omega)
              go_wp2_with (fail)
              go_ret
              exact ⟨by rw [HK.out] <;> rfl, HB.out⟩
            · have P6 := Aside0.mk h6
              have b6 : decide (r < 0) = false := decide_eq_false h6
              clear h6
              obtain ⟨p, rfl⟩ : ∃ p : Nat, r = p := ⟨r.toNat, by have := P6.out; omega⟩
              obtain ⟨u, ad2, hu, e2, HU⟩ := res_at HS3.out.cf.r p (by omega)
              have q12 := HS3.out.cell12
              rw [e2] at q12
              have k1 := HU.g1
              have HE := Aside0.mk (show _ from HE.out)
              rw [Int.toNat_natCast, hu] at HE
              have hp : p < c.f4.length := by omega
              clear e2 HU hu hr
              by_cases h7 : u.f1 = 1
              · have P7 := Aside0.mk h7
                have b7 : (u.f1 == 1) = true := by rw [beq_iff_eq]; exact h7
                have b7x : (u.f1 != 1) = false := by rw [bne_eq_false_iff_eq]; exact h7
                clear h7
                have HK := Aside0.mk (show errF [eResVal, eResLink, eResEnds] c i = 0 from by rw [HE.out]; have h1 := P1.out; have h2 := P2.out; have h3 := P3.out; have h4 := P4.out; have h5 := P5.out; have h6 := P6.out; have h7 := P7.out; simp [resVal, resLink, h1, h2, h3, h4, h5, h6, h7] <;> omega)
                go_wp2_with (fail)
                go_ret
                exact ⟨by rw [HK.out] <;> rfl, HB.out⟩
              · have P7 := Aside0.mk h7
                have b7 : (u.f1 == 1) = false := by rw [beq_eq_false_iff_ne]; exact h7
                have b7x : (u.f1 != 1) = true := by rw [bne_iff_ne]; exact h7
                clear h7
                have HK := Aside0.mk (show errF [eResVal, eResLink, eResEnds] c i = 70 from by rw [HE.out]; have h1 := P1.out; have h2 := P2.out; have h3 := P3.out; have h4 := P4.out; have h5 := P5.out; have h6 := P6.out; have h7 := P7.out; simp [resVal, resLink, h1, h2, h3, h4, h5, h6, h7] <;> omega)
                go_wp2_with (fail)
                go_ret
                exact ⟨by rw [HK.out] <;> rfl, HB.out⟩
      · have P3 := Aside0.mk h3
        have b3 : (t.f1 == 2) = false := by rw [beq_eq_false_iff_ne]; exact h3
        have b3x : (t.f1 != 2) = true := by rw [bne_iff_ne]; exact h3
        clear h3
        by_cases h8 : t.f2 = 0
        · have P8 := Aside0.mk h8
          have b8 : (t.f2 == 0) = true := by rw [beq_iff_eq]; exact h8
          have b8x : (t.f2 != 0) = false := by rw [bne_eq_false_iff_eq]; exact h8
          clear h8
          have HK := Aside0.mk (show errF [eResVal, eResLink, eResEnds] c i = 0 from by rw [HE.out]; have h1 := P1.out; have h2 := P2.out; have h3 := P3.out; have h8 := P8.out; simp [resVal, resLink, h1, h2, h3, h8] <;> omega)
          go_wp2_with (fail)
          go_ret
          exact ⟨by rw [HK.out] <;> rfl, HB.out⟩
        · have P8 := Aside0.mk h8
          have b8 : (t.f2 == 0) = false := by rw [beq_eq_false_iff_ne]; exact h8
          have b8x : (t.f2 != 0) = true := by rw [bne_iff_ne]; exact h8
          clear h8
          have HK := Aside0.mk (show errF [eResVal, eResLink, eResEnds] c i = 74 from by rw [HE.out]; have h1 := P1.out; have h2 := P2.out; have h3 := P3.out; have h8 := P8.out; simp [resVal, resLink, h1, h2, h3, h8] <;> omega)
          go_wp2_with (fail)
          go_ret
          exact ⟨by rw [HK.out] <;> rfl, HB.out⟩
end Go.Proofs.YthckjbmgeidkgaaDoor.XA
/- the document's rows: actions, alarms. -/
namespace Go.Proofs.YthckjbmgeidkgaaDoor.XA
set_option linter.unusedVariables false
set_option linter.unusedSimpArgs false
open Go.RowKit Go.WideMaps Go.Maps Go.Proofs.YthckjbmgeidkgaaDoorW.PrintWords Go.Proofs.YthckjbmgeidkgaaDoorW.PrintLast Go.Proofs.YthckjbmgeidkgaaDoorW.PrintMore
set_option maxRecDepth 1000000 in
set_option maxHeartbeats 4000000 in
theorem actR_calls (V : CV) (c : S33) (w : World) (h : Cf w V c) (k f1 f2 : Int) (f3 : ByteArray) (hz : f3.size ≤ 9223372036854775807) (lo hi : Int) : Calls Tryd.prog 86 #[.agg (arr V c), .agg #[.int .i64 k, .int .i64 f1, .int .i64 f2, .string f3], .int .i64 lo, .int .i64 hi] w fun e w' => e = .returned (.int .i64 (actV c k f1 f2 f3 lo hi)) ∧ Below w.heap.size w w' := by
  have HS := Aside0.mk ((At.made h).below (below_a (w.alloc (.cells (arr V c) 33)) (.cells #[.int .i64 k, .int .i64 f1, .int .i64 f2, .string f3] 58)))
  have HB := Aside0.mk (below_a2 w (.cells (arr V c) 33) (.cells #[.int .i64 k, .int .i64 f1, .int .i64 f2, .string f3] 58))
  have HX := Aside0.mk (fun j v hj => box_at (w := w.alloc (.cells (arr V c) 33)) (cs := [.int .i64 k, .int .i64 f1, .int .i64 f2, .string f3]) (e := 58) j v hj)
  have HZ := Aside0.mk (World.size_alloc (w := w) (o := .cells (arr V c) 33))
  clear h
  go_enter Tryd.func86, Tryd.ntmps86
  unfold arr at *
  go_upto_region 1 with fail
  generalize (w.alloc (.cells #[.string c.f0, .string c.f1.f0, .bool c.f1.f1, .bool c.f1.f2, .bool c.f1.f3, .bool c.f1.f4, .bool c.f1.f5, .bool c.f1.f6, .bool c.f1.f7, .bool c.f1.f8, .slice V.a10 c.f2.length V.k10, .slice V.a11 c.f3.length V.k11, .slice V.a12 c.f4.length V.k12, .slice V.a13 c.f5.length V.k13, .slice V.a14 c.f6.length V.k14, .slice V.a15 c.f7.length V.k15, .slice V.a16 c.f8.length V.k16, .slice V.a17 c.f9.length V.k17] 33)).alloc (.cells #[.int .i64 k, .int .i64 f1, .int .i64 f2, .string f3] 58) = w1 at *
  rw [HZ.out] at HX
  generalize w.heap.size + 1 = P at *
  have y0 : w1.cell? ⟨P, 0, none⟩ = some (.int .i64 k) := HX.out 0 _ rfl
  have y1 : w1.cell? ⟨P, 1, none⟩ = some (.int .i64 f1) := HX.out 1 _ rfl
  have y2 : w1.cell? ⟨P, 2, none⟩ = some (.int .i64 f2) := HX.out 2 _ rfl
  have y3 : w1.cell? ⟨P, 3, none⟩ = some (.string f3) := HX.out 3 _ rfl
  have q11 := HS.out.cell11
  have q13 := HS.out.cell13
  clear HX HZ
  by_cases h1 : k = 1
  · subst h1
    by_cases h2 : 1 < lo
    · have P2 := Aside0.mk h2
      have b2 : decide (1 < lo) = true := decide_eq_true h2
      clear h2
      have HK := Aside0.mk (show actV c 1 f1 f2 f3 lo hi = 74 from by have h2 := P2.out; simp [actV, h2] <;> omega)
      go_wp2_with fail
      go_ret
      exact ⟨by rw [HK.out] <;> rfl, HB.out⟩
    · have P2 := Aside0.mk h2
      have b2 : decide (1 < lo) = false := decide_eq_false h2
      clear h2
      by_cases h3 : hi < 1
      · have P3 := Aside0.mk h3
        have b3 : decide (hi < 1) = true := decide_eq_true h3
        clear h3
        have HK := Aside0.mk (show actV c 1 f1 f2 f3 lo hi = 74 from by have h2 := P2.out; have h3 := P3.out; simp [actV, h2, h3] <;> omega)
        go_wp2_with fail
        go_ret
        exact ⟨by rw [HK.out] <;> rfl, HB.out⟩
      · have P3 := Aside0.mk h3
        have b3 : decide (hi < 1) = false := decide_eq_false h3
        clear h3
        by_cases h4 : f2 = 0
        · have P4 := Aside0.mk h4
          have b4 : (f2 == 0) = true := by rw [beq_iff_eq]; exact h4
          have b4x : (f2 != 0) = false := by rw [bne_eq_false_iff_eq]; exact h4
          clear h4
          rcases h5 : f3.toList.isEmpty with _ | _
          · have P5 := Aside0.mk h5
            have b5 := h5
            clear h5
            have HK := Aside0.mk (show actV c 1 f1 f2 f3 lo hi = 74 from by have h2 := P2.out; have h3 := P3.out; have h4 := P4.out; have h5 := P5.out; simp [actV, h2, h3, h4, h5] <;> omega)
            go_wp2_with fail
            go_ret
            exact ⟨by rw [HK.out] <;> rfl, HB.out⟩
          · have P5 := Aside0.mk h5
            have b5 := h5
            clear h5
            by_cases h6 : f1 < 0
            · have P6 := Aside0.mk h6
              have b6 : decide (f1 < 0) = true := decide_eq_true h6
              clear h6
              have HK := Aside0.mk (show actV c 1 f1 f2 f3 lo hi = 73 from by have h2 := P2.out; have h3 := P3.out; have h4 := P4.out; have h5 := P5.out; have h6 := P6.out; simp [actV, h2, h3, h4, h5, h6] <;> omega)
              go_wp2_with fail
              go_ret
              exact ⟨by rw [HK.out] <;> rfl, HB.out⟩
            · have P6 := Aside0.mk h6
              have b6 : decide (f1 < 0) = false := decide_eq_false h6
              clear h6
              by_cases h7 : (c.f3.length : Int) ≤ f1
              · have P7 := Aside0.mk h7
                have b7 : decide ((c.f3.length : Int) ≤ f1) = true := decide_eq_true h7
                clear h7
                have HK := Aside0.mk (show actV c 1 f1 f2 f3 lo hi = 73 from by have h2 := P2.out; have h3 := P3.out; have h4 := P4.out; have h5 := P5.out; have h6 := P6.out; have h7 := P7.out; simp [actV, h2, h3, h4, h5, h6, h7] <;> omega)
                go_wp2_with fail
                go_ret
                exact ⟨by rw [HK.out] <;> rfl, HB.out⟩
              · have P7 := Aside0.mk h7
                have b7 : decide ((c.f3.length : Int) ≤ f1) = false := decide_eq_false h7
                clear h7
                have HK := Aside0.mk (show actV c 1 f1 f2 f3 lo hi = 0 from by have h2 := P2.out; have h3 := P3.out; have h4 := P4.out; have h5 := P5.out; have h6 := P6.out; have h7 := P7.out; simp [actV, h2, h3, h4, h5, h6, h7] <;> omega)
                go_wp2_with fail
                go_quiet (fail)
                go_wp2_with fail
                go_ret
                exact ⟨by rw [HK.out] <;> rfl, HB.out.trans ((drewN_below _ _).mono HB.out.size)⟩
        · have P4 := Aside0.mk h4
          have b4 : (f2 == 0) = false := by rw [beq_eq_false_iff_ne]; exact h4
          have b4x : (f2 != 0) = true := by rw [bne_iff_ne]; exact h4
          clear h4
          have HK := Aside0.mk (show actV c 1 f1 f2 f3 lo hi = 74 from by have h2 := P2.out; have h3 := P3.out; have h4 := P4.out; simp [actV, h2, h3, h4] <;> omega)
          go_wp2_with fail
          go_ret
          exact ⟨by rw [HK.out] <;> rfl, HB.out⟩
  · have P1 := Aside0.mk h1
    have b1 : (k == 1) = false := by rw [beq_eq_false_iff_ne]; exact h1
    have b1x : (k != 1) = true := by rw [bne_iff_ne]; exact h1
    clear h1
    by_cases h8 : k = 2
    · subst h8
      by_cases h9 : 2 < lo
      · have P9 := Aside0.mk h9
        have b9 : decide (2 < lo) = true := decide_eq_true h9
        clear h9
        have HK := Aside0.mk (show actV c 2 f1 f2 f3 lo hi = 74 from by have h1 := P1.out; have h9 := P9.out; simp [actV, h1, h9] <;> omega)
        go_wp2_with fail
        go_ret
        exact ⟨by rw [HK.out] <;> rfl, HB.out⟩
      · have P9 := Aside0.mk h9
        have b9 : decide (2 < lo) = false := decide_eq_false h9
        clear h9
        by_cases h10 : hi < 2
        · have P10 := Aside0.mk h10
          have b10 : decide (hi < 2) = true := decide_eq_true h10
          clear h10
          have HK := Aside0.mk (show actV c 2 f1 f2 f3 lo hi = 74 from by have h1 := P1.out; have h9 := P9.out; have h10 := P10.out; simp [actV, h1, h9, h10] <;> omega)
          go_wp2_with fail
          go_ret
          exact ⟨by rw [HK.out] <;> rfl, HB.out⟩
        · have P10 := Aside0.mk h10
          have b10 : decide (hi < 2) = false := decide_eq_false h10
          clear h10
          rcases h11 : f3.toList.isEmpty with _ | _
          · have P11 := Aside0.mk h11
            have b11 := h11
            clear h11
            have HK := Aside0.mk (show actV c 2 f1 f2 f3 lo hi = 74 from by have h1 := P1.out; have h9 := P9.out; have h10 := P10.out; have h11 := P11.out; simp [actV, h1, h9, h10, h11] <;> omega)
            go_wp2_with fail
            go_ret
            exact ⟨by rw [HK.out] <;> rfl, HB.out⟩
          · have P11 := Aside0.mk h11
            have b11 := h11
            clear h11
            by_cases h12 : f1 < 0
            · have P12 := Aside0.mk h12
              have b12 : decide (f1 < 0) = true := decide_eq_true h12
              clear h12
              have HK := Aside0.mk (show actV c 2 f1 f2 f3 lo hi = 73 from by have h1 := P1.out; have h9 := P9.out; have h10 := P10.out; have h11 := P11.out; have h12 := P12.out; simp [actV, h1, h9, h10, h11, h12] <;> omega)
              go_wp2_with fail
              go_ret
              exact ⟨by rw [HK.out] <;> rfl, HB.out⟩
            · have P12 := Aside0.mk h12
              have b12 : decide (f1 < 0) = false := decide_eq_false h12
              clear h12
              by_cases h13 : (c.f3.length : Int) ≤ f1
              · have P13 := Aside0.mk h13
                have b13 : decide ((c.f3.length : Int) ≤ f1) = true := decide_eq_true h13
                clear h13
                have HK := Aside0.mk (show actV c 2 f1 f2 f3 lo hi = 73 from by have h1 := P1.out; have h9 := P9.out; have h10 := P10.out; have h11 := P11.out; have h12 := P12.out; have h13 := P13.out; simp [actV, h1, h9, h10, h11, h12, h13] <;> omega)
                go_wp2_with fail
                go_ret
                exact ⟨by rw [HK.out] <;> rfl, HB.out⟩
              · have P13 := Aside0.mk h13
                have b13 : decide ((c.f3.length : Int) ≤ f1) = false := decide_eq_false h13
                clear h13
                by_cases h14 : f2 < 0
                · have P14 := Aside0.mk h14
                  have b14 : decide (f2 < 0) = true := decide_eq_true h14
                  clear h14
                  have HK := Aside0.mk (show actV c 2 f1 f2 f3 lo hi = 73 from by have h1 := P1.out; have h9 := P9.out; have h10 := P10.out; have h11 := P11.out; have h12 := P12.out; have h13 := P13.out; have h14 := P14.out; simp [actV, h1, h9, h10, h11, h12, h13, h14] <;> omega)
                  go_wp2_with fail
                  go_ret
                  exact ⟨by rw [HK.out] <;> rfl, HB.out⟩
                · have P14 := Aside0.mk h14
                  have b14 : decide (f2 < 0) = false := decide_eq_false h14
                  clear h14
                  by_cases h15 : (c.f5.length : Int) ≤ f2
                  · have P15 := Aside0.mk h15
                    have b15 : decide ((c.f5.length : Int) ≤ f2) = true := decide_eq_true h15
                    clear h15
                    have HK := Aside0.mk (show actV c 2 f1 f2 f3 lo hi = 73 from by have h1 := P1.out; have h9 := P9.out; have h10 := P10.out; have h11 := P11.out; have h12 := P12.out; have h13 := P13.out; have h14 := P14.out; have h15 := P15.out; simp [actV, h1, h9, h10, h11, h12, h13, h14, h15] <;> omega)
                    go_wp2_with fail
                    go_ret
                    exact ⟨by rw [HK.out] <;> rfl, HB.out⟩
                  · have P15 := Aside0.mk h15
                    have b15 : decide ((c.f5.length : Int) ≤ f2) = false := decide_eq_false h15
                    clear h15
                    obtain ⟨p, rfl⟩ : ∃ p : Nat, f1 = p := ⟨f1.toNat, by have h1 := P1.out; have h9 := P9.out; have h10 := P10.out; have h11 := P11.out; have h12 := P12.out; have h13 := P13.out; have h14 := P14.out; have h15 := P15.out; omega⟩
                    have hpl : p < c.f3.length := by have h1 := P1.out; have h9 := P9.out; have h10 := P10.out; have h11 := P11.out; have h12 := P12.out; have h13 := P13.out; have h14 := P14.out; have h15 := P15.out; omega
                    obtain ⟨t, ad, A4, c4, A5, c5, A6, c6, A7, c7, ht, e, HA, _, _, _, _, l6, g6, _⟩ := task_at HS.out.cf.t p hpl
                    have g := HA.g6
                    rw [e] at q11
                    have HC := Aside0.mk (fun n => has_calls A6 c6 t.f6 f2 (w1.drewN n) (Kd.C_below g6 (drewN_below w1 n)) l6)
                    have HV := Aside0.mk (show actV c 2 p f2 f3 lo hi = if f2 ∈ t.f6 then 0 else 70 from by have h1 := P1.out; have h9 := P9.out; have h10 := P10.out; have h11 := P11.out; have h12 := P12.out; have h13 := P13.out; have h14 := P14.out; have h15 := P15.out; simp [actV, ← ht, h1, h9, h10, h11, h12, h13, h14, h15])
                    clear ht HA g6 e HS
                    have hm : ∃ b, decide (f2 ∈ t.f6) = b := ⟨_, rfl⟩
                    obtain ⟨b, hb⟩ := hm
                    rw [hb] at HC
                    have M := Aside0.mk (show (f2 ∈ t.f6) = (b = true) from by rw [← hb]; simp)
                    clear hb
                    rcases h16 : b with _ | _
                    · have P16 := Aside0.mk h16
                      have b16 := h16
                      clear h16
                      have HK := Aside0.mk (show actV c 2 p f2 f3 lo hi = 70 from by have h1 := P1.out; have h9 := P9.out; have h10 := P10.out; have h11 := P11.out; have h12 := P12.out; have h13 := P13.out; have h14 := P14.out; have h15 := P15.out; have h16 := P16.out; rw [HV.out]; simp [M.out, h1, h9, h10, h11, h12, h13, h14, h15, h16])
                      go_wp2_with fail
                      go_quiet (first | (go_at_call 88; exact Calls.quiet_of_same (HC.out _)))
                      go_wp2_with fail
                      go_ret
                      exact ⟨by rw [HK.out] <;> rfl, HB.out.trans ((drewN_below _ _).mono HB.out.size)⟩
                    · have P16 := Aside0.mk h16
                      have b16 := h16
                      clear h16
                      have HK := Aside0.mk (show actV c 2 p f2 f3 lo hi = 0 from by have h1 := P1.out; have h9 := P9.out; have h10 := P10.out; have h11 := P11.out; have h12 := P12.out; have h13 := P13.out; have h14 := P14.out; have h15 := P15.out; have h16 := P16.out; rw [HV.out]; simp [M.out, h1, h9, h10, h11, h12, h13, h14, h15, h16])
                      go_wp2_with fail
                      go_quiet (first | (go_at_call 88; exact Calls.quiet_of_same (HC.out _)))
                      go_wp2_with fail
                      go_ret
                      exact ⟨by rw [HK.out] <;> rfl, HB.out.trans ((drewN_below _ _).mono HB.out.size)⟩
    · have P8 := Aside0.mk h8
      have b8 : (k == 2) = false := by rw [beq_eq_false_iff_ne]; exact h8
      have b8x : (k != 2) = true := by rw [bne_iff_ne]; exact h8
      clear h8
      by_cases h17 : k = 3
      · subst h17
        by_cases h18 : 3 < lo
        · have P18 := Aside0.mk h18
          have b18 : decide (3 < lo) = true := decide_eq_true h18
          clear h18
          have HK := Aside0.mk (show actV c 3 f1 f2 f3 lo hi = 74 from by have h1 := P1.out; have h8 := P8.out; have h18 := P18.out; simp [actV, h1, h8, h18] <;> omega)
          go_wp2_with fail
          go_ret
          exact ⟨by rw [HK.out] <;> rfl, HB.out⟩
        · have P18 := Aside0.mk h18
          have b18 : decide (3 < lo) = false := decide_eq_false h18
          clear h18
          by_cases h19 : hi < 3
          · have P19 := Aside0.mk h19
            have b19 : decide (hi < 3) = true := decide_eq_true h19
            clear h19
            have HK := Aside0.mk (show actV c 3 f1 f2 f3 lo hi = 74 from by have h1 := P1.out; have h8 := P8.out; have h18 := P18.out; have h19 := P19.out; simp [actV, h1, h8, h18, h19] <;> omega)
            go_wp2_with fail
            go_ret
            exact ⟨by rw [HK.out] <;> rfl, HB.out⟩
          · have P19 := Aside0.mk h19
            have b19 : decide (hi < 3) = false := decide_eq_false h19
            clear h19
            by_cases h20 : f1 = 0
            · have P20 := Aside0.mk h20
              have b20 : (f1 == 0) = true := by rw [beq_iff_eq]; exact h20
              have b20x : (f1 != 0) = false := by rw [bne_eq_false_iff_eq]; exact h20
              clear h20
              by_cases h21 : f2 = 0
              · have P21 := Aside0.mk h21
                have b21 : (f2 == 0) = true := by rw [beq_iff_eq]; exact h21
                have b21x : (f2 != 0) = false := by rw [bne_eq_false_iff_eq]; exact h21
                clear h21
                rcases h22 : nameB f3 with _ | _
                · have P22 := Aside0.mk h22
                  have b22 := h22
                  clear h22
                  have HK := Aside0.mk (show actV c 3 f1 f2 f3 lo hi = 72 from by have h1 := P1.out; have h8 := P8.out; have h18 := P18.out; have h19 := P19.out; have h20 := P20.out; have h21 := P21.out; have h22 := P22.out; simp [actV, h1, h8, h18, h19, h20, h21, h22])
                  go_wp2_with fail
                  go_quiet (fail)
                  go_wp2_with fail
                  refine (nameR_calls f3 _ hz).mono ?_
                  rintro e w' ⟨rfl, rfl⟩
                  go_wp2_with fail
                  go_ret
                  exact ⟨by rw [HK.out] <;> rfl, HB.out.trans ((drewN_below _ _).mono HB.out.size)⟩
                · have P22 := Aside0.mk h22
                  have b22 := h22
                  clear h22
                  have HK := Aside0.mk (show actV c 3 f1 f2 f3 lo hi = 0 from by have h1 := P1.out; have h8 := P8.out; have h18 := P18.out; have h19 := P19.out; have h20 := P20.out; have h21 := P21.out; have h22 := P22.out; simp [actV, h1, h8, h18, h19, h20, h21, h22])
                  go_wp2_with fail
                  go_quiet (fail)
                  go_wp2_with fail
                  refine (nameR_calls f3 _ hz).mono ?_
                  rintro e w' ⟨rfl, rfl⟩
                  go_wp2_with fail
                  go_ret
                  exact ⟨by rw [HK.out] <;> rfl, HB.out.trans ((drewN_below _ _).mono HB.out.size)⟩
              · have P21 := Aside0.mk h21
                have b21 : (f2 == 0) = false := by rw [beq_eq_false_iff_ne]; exact h21
                have b21x : (f2 != 0) = true := by rw [bne_iff_ne]; exact h21
                clear h21
                have HK := Aside0.mk (show actV c 3 f1 f2 f3 lo hi = 74 from by have h1 := P1.out; have h8 := P8.out; have h18 := P18.out; have h19 := P19.out; have h20 := P20.out; have h21 := P21.out; simp [actV, h1, h8, h18, h19, h20, h21] <;> omega)
                go_wp2_with fail
                go_ret
                exact ⟨by rw [HK.out] <;> rfl, HB.out⟩
            · have P20 := Aside0.mk h20
              have b20 : (f1 == 0) = false := by rw [beq_eq_false_iff_ne]; exact h20
              have b20x : (f1 != 0) = true := by rw [bne_iff_ne]; exact h20
              clear h20
              have HK := Aside0.mk (show actV c 3 f1 f2 f3 lo hi = 74 from by have h1 := P1.out; have h8 := P8.out; have h18 := P18.out; have h19 := P19.out; have h20 := P20.out; simp [actV, h1, h8, h18, h19, h20] <;> omega)
              go_wp2_with fail
              go_ret
              exact ⟨by rw [HK.out] <;> rfl, HB.out⟩
      · have P17 := Aside0.mk h17
        have b17 : (k == 3) = false := by rw [beq_eq_false_iff_ne]; exact h17
        have b17x : (k != 3) = true := by rw [bne_iff_ne]; exact h17
        clear h17
        by_cases h23 : k = 4
        · subst h23
          by_cases h24 : 4 < lo
          · have P24 := Aside0.mk h24
            have b24 : decide (4 < lo) = true := decide_eq_true h24
            clear h24
            have HK := Aside0.mk (show actV c 4 f1 f2 f3 lo hi = 74 from by have h1 := P1.out; have h8 := P8.out; have h17 := P17.out; have h24 := P24.out; simp [actV, h1, h8, h17, h24] <;> omega)
            go_wp2_with fail
            go_ret
            exact ⟨by rw [HK.out] <;> rfl, HB.out⟩
          · have P24 := Aside0.mk h24
            have b24 : decide (4 < lo) = false := decide_eq_false h24
            clear h24
            by_cases h25 : hi < 4
            · have P25 := Aside0.mk h25
              have b25 : decide (hi < 4) = true := decide_eq_true h25
              clear h25
              have HK := Aside0.mk (show actV c 4 f1 f2 f3 lo hi = 74 from by have h1 := P1.out; have h8 := P8.out; have h17 := P17.out; have h24 := P24.out; have h25 := P25.out; simp [actV, h1, h8, h17, h24, h25] <;> omega)
              go_wp2_with fail
              go_ret
              exact ⟨by rw [HK.out] <;> rfl, HB.out⟩
            · have P25 := Aside0.mk h25
              have b25 : decide (hi < 4) = false := decide_eq_false h25
              clear h25
              by_cases h26 : f1 = 0
              · have P26 := Aside0.mk h26
                have b26 : (f1 == 0) = true := by rw [beq_iff_eq]; exact h26
                have b26x : (f1 != 0) = false := by rw [bne_eq_false_iff_eq]; exact h26
                clear h26
                by_cases h27 : f2 = 0
                · have P27 := Aside0.mk h27
                  have b27 : (f2 == 0) = true := by rw [beq_iff_eq]; exact h27
                  have b27x : (f2 != 0) = false := by rw [bne_eq_false_iff_eq]; exact h27
                  clear h27
                  rcases h28 : nameB f3 with _ | _
                  · have P28 := Aside0.mk h28
                    have b28 := h28
                    clear h28
                    have HK := Aside0.mk (show actV c 4 f1 f2 f3 lo hi = 72 from by have h1 := P1.out; have h8 := P8.out; have h17 := P17.out; have h24 := P24.out; have h25 := P25.out; have h26 := P26.out; have h27 := P27.out; have h28 := P28.out; simp [actV, h1, h8, h17, h24, h25, h26, h27, h28])
                    go_wp2_with fail
                    go_quiet (fail)
                    go_wp2_with fail
                    refine (nameR_calls f3 _ hz).mono ?_
                    rintro e w' ⟨rfl, rfl⟩
                    go_wp2_with fail
                    go_ret
                    exact ⟨by rw [HK.out] <;> rfl, HB.out.trans ((drewN_below _ _).mono HB.out.size)⟩
                  · have P28 := Aside0.mk h28
                    have b28 := h28
                    clear h28
                    have HK := Aside0.mk (show actV c 4 f1 f2 f3 lo hi = 0 from by have h1 := P1.out; have h8 := P8.out; have h17 := P17.out; have h24 := P24.out; have h25 := P25.out; have h26 := P26.out; have h27 := P27.out; have h28 := P28.out; simp [actV, h1, h8, h17, h24, h25, h26, h27, h28])
                    go_wp2_with fail
                    go_quiet (fail)
                    go_wp2_with fail
                    refine (nameR_calls f3 _ hz).mono ?_
                    rintro e w' ⟨rfl, rfl⟩
                    go_wp2_with fail
                    go_ret
                    exact ⟨by rw [HK.out] <;> rfl, HB.out.trans ((drewN_below _ _).mono HB.out.size)⟩
                · have P27 := Aside0.mk h27
                  have b27 : (f2 == 0) = false := by rw [beq_eq_false_iff_ne]; exact h27
                  have b27x : (f2 != 0) = true := by rw [bne_iff_ne]; exact h27
                  clear h27
                  have HK := Aside0.mk (show actV c 4 f1 f2 f3 lo hi = 74 from by have h1 := P1.out; have h8 := P8.out; have h17 := P17.out; have h24 := P24.out; have h25 := P25.out; have h26 := P26.out; have h27 := P27.out; simp [actV, h1, h8, h17, h24, h25, h26, h27] <;> omega)
                  go_wp2_with fail
                  go_ret
                  exact ⟨by rw [HK.out] <;> rfl, HB.out⟩
              · have P26 := Aside0.mk h26
                have b26 : (f1 == 0) = false := by rw [beq_eq_false_iff_ne]; exact h26
                have b26x : (f1 != 0) = true := by rw [bne_iff_ne]; exact h26
                clear h26
                have HK := Aside0.mk (show actV c 4 f1 f2 f3 lo hi = 74 from by have h1 := P1.out; have h8 := P8.out; have h17 := P17.out; have h24 := P24.out; have h25 := P25.out; have h26 := P26.out; simp [actV, h1, h8, h17, h24, h25, h26] <;> omega)
                go_wp2_with fail
                go_ret
                exact ⟨by rw [HK.out] <;> rfl, HB.out⟩
        · have P23 := Aside0.mk h23
          have b23 : (k == 4) = false := by rw [beq_eq_false_iff_ne]; exact h23
          have b23x : (k != 4) = true := by rw [bne_iff_ne]; exact h23
          clear h23
          by_cases h29 : k < lo
          · have P29 := Aside0.mk h29
            have b29 : decide (k < lo) = true := decide_eq_true h29
            clear h29
            have HK := Aside0.mk (show actV c k f1 f2 f3 lo hi = 74 from by have h1 := P1.out; have h8 := P8.out; have h17 := P17.out; have h23 := P23.out; have h29 := P29.out; simp [actV, h1, h8, h17, h23, h29] <;> omega)
            go_wp2_with fail
            go_ret
            exact ⟨by rw [HK.out] <;> rfl, HB.out⟩
          · have P29 := Aside0.mk h29
            have b29 : decide (k < lo) = false := decide_eq_false h29
            clear h29
            by_cases h30 : hi < k
            · have P30 := Aside0.mk h30
              have b30 : decide (hi < k) = true := decide_eq_true h30
              clear h30
              have HK := Aside0.mk (show actV c k f1 f2 f3 lo hi = 74 from by have h1 := P1.out; have h8 := P8.out; have h17 := P17.out; have h23 := P23.out; have h29 := P29.out; have h30 := P30.out; simp [actV, h1, h8, h17, h23, h29, h30] <;> omega)
              go_wp2_with fail
              go_ret
              exact ⟨by rw [HK.out] <;> rfl, HB.out⟩
            · have P30 := Aside0.mk h30
              have b30 : decide (hi < k) = false := decide_eq_false h30
              clear h30
              by_cases h31 : f1 = 0
              · have P31 := Aside0.mk h31
                have b31 : (f1 == 0) = true := by rw [beq_iff_eq]; exact h31
                have b31x : (f1 != 0) = false := by rw [bne_eq_false_iff_eq]; exact h31
                clear h31
                by_cases h32 : f2 = 0
                · have P32 := Aside0.mk h32
                  have b32 : (f2 == 0) = true := by rw [beq_iff_eq]; exact h32
                  have b32x : (f2 != 0) = false := by rw [bne_eq_false_iff_eq]; exact h32
                  clear h32
                  rcases h33 : f3.toList.isEmpty with _ | _
                  · have P33 := Aside0.mk h33
                    have b33 := h33
                    clear h33
                    have HK := Aside0.mk (show actV c k f1 f2 f3 lo hi = 74 from by have h1 := P1.out; have h8 := P8.out; have h17 := P17.out; have h23 := P23.out; have h29 := P29.out; have h30 := P30.out; have h31 := P31.out; have h32 := P32.out; have h33 := P33.out; simp [actV, h1, h8, h17, h23, h29, h30, h31, h32, h33] <;> omega)
                    go_wp2_with fail
                    go_ret
                    exact ⟨by rw [HK.out] <;> rfl, HB.out⟩
                  · have P33 := Aside0.mk h33
                    have b33 := h33
                    clear h33
                    have HK := Aside0.mk (show actV c k f1 f2 f3 lo hi = 0 from by have h1 := P1.out; have h8 := P8.out; have h17 := P17.out; have h23 := P23.out; have h29 := P29.out; have h30 := P30.out; have h31 := P31.out; have h32 := P32.out; have h33 := P33.out; simp [actV, h1, h8, h17, h23, h29, h30, h31, h32, h33] <;> omega)
                    go_wp2_with fail
                    go_quiet (fail)
                    go_wp2_with fail
                    go_ret
                    exact ⟨by rw [HK.out] <;> rfl, HB.out.trans ((drewN_below _ _).mono HB.out.size)⟩
                · have P32 := Aside0.mk h32
                  have b32 : (f2 == 0) = false := by rw [beq_eq_false_iff_ne]; exact h32
                  have b32x : (f2 != 0) = true := by rw [bne_iff_ne]; exact h32
                  clear h32
                  have HK := Aside0.mk (show actV c k f1 f2 f3 lo hi = 74 from by have h1 := P1.out; have h8 := P8.out; have h17 := P17.out; have h23 := P23.out; have h29 := P29.out; have h30 := P30.out; have h31 := P31.out; have h32 := P32.out; simp [actV, h1, h8, h17, h23, h29, h30, h31, h32] <;> omega)
                  go_wp2_with fail
                  go_ret
                  exact ⟨by rw [HK.out] <;> rfl, HB.out⟩
              · have P31 := Aside0.mk h31
                have b31 : (f1 == 0) = false := by rw [beq_eq_false_iff_ne]; exact h31
                have b31x : (f1 != 0) = true := by rw [bne_iff_ne]; exact h31
                clear h31
                have HK := Aside0.mk (show actV c k f1 f2 f3 lo hi = 74 from by have h1 := P1.out; have h8 := P8.out; have h17 := P17.out; have h23 := P23.out; have h29 := P29.out; have h30 := P30.out; have h31 := P31.out; simp [actV, h1, h8, h17, h23, h29, h30, h31] <;> omega)
                go_wp2_with fail
                go_ret
                exact ⟨by rw [HK.out] <;> rfl, HB.out⟩
end Go.Proofs.YthckjbmgeidkgaaDoor.XA
/- the document's rows: alarms. -/
namespace Go.Proofs.YthckjbmgeidkgaaDoor.XA
set_option linter.unusedVariables false
set_option linter.unusedSimpArgs false
open Go.RowKit Go.WideMaps Go.Maps Go.Proofs.YthckjbmgeidkgaaDoorW.PrintWords Go.Proofs.YthckjbmgeidkgaaDoorW.PrintLast Go.Proofs.YthckjbmgeidkgaaDoorW.PrintMore
theorem box60 (w : World) (t : S60) (A6 : Option Addr) (c6 : Nat) : At60 (w.alloc (.cells #[.string t.f0, .int .i64 t.f1, .int .i64 t.f2.f0, .int .i64 t.f2.f1, .int .i64 t.f2.f2, .string t.f2.f3, .slice A6 t.f3.length c6, .int .u32 t.f4, .int .u32 t.f5] 60)) ⟨w.heap.size, 0, none⟩ t A6 c6 := ⟨fun j v hj => box_at (cs := [.string t.f0, .int .i64 t.f1, .int .i64 t.f2.f0, .int .i64 t.f2.f1, .int .i64 t.f2.f2, .string t.f2.f3, .slice A6 t.f3.length c6, .int .u32 t.f4, .int .u32 t.f5]) (e := 60) j v hj⟩
/-- all names are no longer than may be handed in -/
structure NamOk (c : S33) : Prop where
  cpu : c.f0.size ≤ 140737488355328
  os : c.f1.f0.size ≤ 140737488355328
  m : ∀ x ∈ c.f2, x.size ≤ 140737488355328
  t : ∀ x ∈ c.f3, x.f0.size ≤ 140737488355328
  r : ∀ x ∈ c.f4, x.f0.size ≤ 140737488355328
  e : ∀ x ∈ c.f5, x.f0.size ≤ 140737488355328
  x : ∀ x ∈ c.f6, x.f0.size ≤ 140737488355328
  a : ∀ x ∈ c.f7, x.f0.size ≤ 140737488355328 ∧ x.f2.f3.size ≤ 140737488355328
  i : ∀ x ∈ c.f8, x.f0.size ≤ 140737488355328
  g : ∀ x ∈ c.f9, x.f0.size ≤ 140737488355328 ∧ x.f6.f3.size ≤ 140737488355328
def RChkN (f : Nat) (n : S33 → Nat) (E : S33 → Nat → Int) : Prop := ∀ (w : World) (V : CV) (c : S33) (i : Nat), Cf w V c → NamOk c → i < n c →
  Calls Tryd.prog f #[.agg (arr V c), .int .i64 i] w fun e w' => e = .returned (.int .i64 (E c i)) ∧ Below w.heap.size w w'
theorem RChk.named {f : Nat} {n : S33 → Nat} {E : S33 → Nat → Int} (h : RChk f n E) : RChkN f n E := fun w V c i hc _ hi => h w V c i hc hi
theorem getD_mem {α : Type} {l : List α} {i : Nat} {d : α} (h : i < l.length) : l.getD i d ∈ l := by
  rw [List.getD_eq_getElem?_getD, List.getElem?_eq_getElem h]
  exact List.getElem_mem h
set_option maxRecDepth 1000000 in
set_option maxHeartbeats 4000000 in
theorem alarm_calls : RChkN 74 (fun c => c.f7.length) (errF [eAlmCtr, eAlmAct, eAlmModes, eAlmTimes]) := by
  intro w V c i h hnm hi
  have hz := (hnm.a _ (getD_mem (d := z60) hi)).2
  clear hnm
  have HS := Aside0.mk (At.made h)
  have HB := Aside0.mk (below_a w (.cells (arr V c) 33))
  have HE := Aside0.mk (show errF [eAlmCtr, eAlmAct, eAlmModes, eAlmTimes] c i = if (c.f7.getD i z60).f1 < 0 ∨ (c.f6.length : Int) ≤ (c.f7.getD i z60).f1 then 73 else if actV c (c.f7.getD i z60).f2.f0 (c.f7.getD i z60).f2.f1 (c.f7.getD i z60).f2.f2 (c.f7.getD i z60).f2.f3 1 3 ≠ 0 then actV c (c.f7.getD i z60).f2.f0 (c.f7.getD i z60).f2.f1 (c.f7.getD i z60).f2.f2 (c.f7.getD i z60).f2.f3 1 3 else if riseB c.f2.length (c.f7.getD i z60).f3 = false then 73 else if almTimes (c.f6.getD (c.f7.getD i z60).f1.toNat z62) (c.f7.getD i z60) = false then 74 else 0 from by
    unfold errF errF errF errF errF eAlmCtr eAlmAct eAlmModes eAlmTimes eAct
    by_cases hc : (c.f7.getD i z60).f1 < 0 ∨ (c.f6.length : Int) ≤ (c.f7.getD i z60).f1
    · rw [if_pos hc]
      have hb : (decide (0 ≤ (c.f7.getD i z60).f1) && decide ((c.f7.getD i z60).f1 < c.f6.length)) = false := by
        rw [Bool.and_eq_false_iff]
        rcases hc with hc | hc
        · exact .inl (decide_eq_false (by omega))
        · exact .inr (decide_eq_false (by omega))
      rw [hb]
      rfl
    · rw [if_neg hc]
      have hb : (decide (0 ≤ (c.f7.getD i z60).f1) && decide ((c.f7.getD i z60).f1 < c.f6.length)) = true := by
        rw [Bool.and_eq_true]
        exact ⟨decide_eq_true (by omega), decide_eq_true (by omega)⟩
      rw [hb]
      cases riseB c.f2.length (c.f7.getD i z60).f3 <;> cases almTimes (c.f6.getD (c.f7.getD i z60).f1.toNat z62) (c.f7.getD i z60) <;> rfl)
  clear h
  go_enter Tryd.func74, Tryd.ntmps74
  unfold arr at *
  go_upto_region 1 with fail
  generalize w.alloc (.cells #[.string c.f0, .string c.f1.f0, .bool c.f1.f1, .bool c.f1.f2, .bool c.f1.f3, .bool c.f1.f4, .bool c.f1.f5, .bool c.f1.f6, .bool c.f1.f7, .bool c.f1.f8, .slice V.a10 c.f2.length V.k10, .slice V.a11 c.f3.length V.k11, .slice V.a12 c.f4.length V.k12, .slice V.a13 c.f5.length V.k13, .slice V.a14 c.f6.length V.k14, .slice V.a15 c.f7.length V.k15, .slice V.a16 c.f8.length V.k16, .slice V.a17 c.f9.length V.k17] 33) = w1 at *
  obtain ⟨t, ad, A6, c6, ht, e, HA, l6, gg6⟩ := alm_at HS.out.cf.a i hi
  have HG6 := Aside0.mk gg6
  have q15 := HS.out.cell15
  rw [e] at q15
  rw [ht] at HE hz
  have hz : t.f2.f3.size ≤ 9223372036854775807 := by omega
  have HAX := Aside0.mk HA
  have HX := Aside0.mk (box60 w1 t A6 c6)
  have B1 := below_a w1 (.cells #[.string t.f0, .int .i64 t.f1, .int .i64 t.f2.f0, .int .i64 t.f2.f1, .int .i64 t.f2.f2, .string t.f2.f3, .slice A6 t.f3.length c6, .int .u32 t.f4, .int .u32 t.f5] 60)
  replace HG6 := Aside0.mk (Kd.C_below HG6.out B1)
  replace HB := Aside0.mk (HB.out.trans (B1.mono HB.out.size))
  replace HS := Aside0.mk (HS.out.below B1)
  clear ht HA e B1 gg6
  go_upto_region 2 with (first | (refine load60 HAX.out rfl (.tmp 11) rfl rfl ?_) | (refine store60 (by rfl) #[.string t.f0, .int .i64 t.f1, .int .i64 t.f2.f0, .int .i64 t.f2.f1, .int .i64 t.f2.f2, .string t.f2.f3, .slice A6 t.f3.length c6, .int .u32 t.f4, .int .u32 t.f5] (by rfl) (by simp [Value.oneCell']) (by rfl) (.tmp 5) (.tmp 12) (by rfl) (by rfl) (by rfl) ?_))
  clear q15 HAX
  generalize w1.alloc (.cells #[.string t.f0, .int .i64 t.f1, .int .i64 t.f2.f0, .int .i64 t.f2.f1, .int .i64 t.f2.f2, .string t.f2.f3, .slice A6 t.f3.length c6, .int .u32 t.f4, .int .u32 t.f5] 60) = w2 at *
  generalize w1.heap.size = P at *
  have g1 := HX.out.g1
  have g2 := HX.out.g2
  have g3 := HX.out.g3
  have g4 := HX.out.g4
  have g5 := HX.out.g5
  have q14 := HS.out.cell14
  by_cases h1 : t.f1 < 0
  · have P1 := Aside0.mk h1
    have b1 : decide (t.f1 < 0) = true := decide_eq_true h1
    clear h1
    have HK := Aside0.mk (show errF [eAlmCtr, eAlmAct, eAlmModes, eAlmTimes] c i = 73 from by have h1 := P1.out; rw [HE.out]; simp [eq_self, h1] <;> first | omega | (intros; omega))
    go_wp2_with fail
    go_ret
    exact ⟨by rw [HK.out] <;> rfl, HB.out⟩
  · have P1 := Aside0.mk h1
    have b1 : decide (t.f1 < 0) = false := decide_eq_false h1
    clear h1
    by_cases h2 : (c.f6.length : Int) ≤ t.f1
    · have P2 := Aside0.mk h2
      have b2 : decide ((c.f6.length : Int) ≤ t.f1) = true := decide_eq_true h2
      clear h2
      have HK := Aside0.mk (show errF [eAlmCtr, eAlmAct, eAlmModes, eAlmTimes] c i = 73 from by have h1 := P1.out; have h2 := P2.out; rw [HE.out]; simp [eq_self, h1, h2] <;> first | omega | (intros; omega))
      go_wp2_with fail
      go_ret
      exact ⟨by rw [HK.out] <;> rfl, HB.out⟩
    · have P2 := Aside0.mk h2
      have b2 : decide ((c.f6.length : Int) ≤ t.f1) = false := decide_eq_false h2
      clear h2
      go_wp2_with (first | ((with_reducible refine gate_dst (N := 24) rfl ?_); refine load33 HS.out rfl (.tmp 2) rfl rfl ?_))
      have hx := actR_calls V c w2 HS.out.cf t.f2.f0 t.f2.f1 t.f2.f2 t.f2.f3 hz 1 3
      unfold arr at hx
      refine hx.mono ?_
      clear hx
      rintro e w4 ⟨rfl, B4⟩
      replace HX := Aside0.mk (HX.out.below B4)
      replace HS := Aside0.mk (HS.out.below B4)
      replace HB := Aside0.mk (HB.out.trans (B4.mono HB.out.size))
      replace HG6 := Aside0.mk (Kd.C_below HG6.out B4)
      clear B4 g1 g2 g3 g4 g5 q14
      have g6 := HX.out.g6
      have q10 := HS.out.cell10
      generalize actV c t.f2.f0 t.f2.f1 t.f2.f2 t.f2.f3 1 3 = av at *
      by_cases h3 : av = 0
      · have P3 := Aside0.mk h3
        have b3 : (av == 0) = true := by rw [beq_iff_eq]; exact h3
        have b3x : (av != 0) = false := by rw [bne_eq_false_iff_eq]; exact h3
        clear h3
        replace HE := Aside0.mk (show errF [eAlmCtr, eAlmAct, eAlmModes, eAlmTimes] c i = if riseB c.f2.length t.f3 = false then 73 else if almTimes (c.f6.getD t.f1.toNat z62) t = false then 74 else 0 from by have h1 := P1.out; have h2 := P2.out; have h3 := P3.out; rw [HE.out, if_neg (by omega), if_neg (by simp [h3])])
        go_wp2_with fail
        refine (rises_calls A6 c6 t.f3 c.f2.length w4 HG6.out l6).mono ?_
        rintro e w5 ⟨rfl, B5⟩
        replace HX := Aside0.mk (HX.out.below B5)
        replace HS := Aside0.mk (HS.out.below B5)
        replace HB := Aside0.mk (HB.out.trans (B5.mono HB.out.size))
        clear B5 g6 q10
        obtain ⟨p, hp⟩ : ∃ p : Nat, t.f1 = p := ⟨t.f1.toNat, by have h1 := P1.out; have h2 := P2.out; have h3 := P3.out; omega⟩
        have hpl : p < c.f6.length := by have h1 := P1.out; have h2 := P2.out; have h3 := P3.out; omega
        obtain ⟨x, ad2, hx, e2, HA2⟩ := ctr_at HS.out.cf.x p hpl
        have HC2 := Aside0.mk HA2
        rw [hp, Int.toNat_natCast, hx] at HE
        have q14 := HS.out.cell14
        rw [e2] at q14
        have g1 := HX.out.g1
        rw [hp] at g1
        have g6 := HX.out.g6
        clear hx e2 HA2
        have HP := Aside0.mk hp
        clear hp
        rcases h4 : riseB c.f2.length t.f3 with _ | _
        · have P4 := Aside0.mk h4
          have b4 := h4
          clear h4
          have HK := Aside0.mk (show errF [eAlmCtr, eAlmAct, eAlmModes, eAlmTimes] c i = 73 from by have h1 := P1.out; have h2 := P2.out; have h3 := P3.out; have h4 := P4.out; rw [HE.out]; simp [eq_self, h1, h2, h3, h4] <;> first | omega | (intros; omega))
          go_wp2_with fail
          go_ret
          exact ⟨by rw [HK.out] <;> rfl, HB.out⟩
        · have P4 := Aside0.mk h4
          have b4 := h4
          clear h4
          go_upto_region 10 with (first | (refine load62 HC2.out rfl (.tmp 42) rfl rfl ?_) | (refine store62 (by rfl) #[.string x.f0, .int .u32 x.f1, .int .u32 x.f2, .int .u32 x.f3] (by rfl) (by simp [Value.oneCell']) (by rfl) (.tmp 7) (.tmp 43) (by rfl) (by rfl) (by rfl) ?_))
          have B6 := below_a w5 (.cells #[.string x.f0, .int .u32 x.f1, .int .u32 x.f2, .int .u32 x.f3] 62)
          have HXC := Aside0.mk (box62 w5 x)
          replace HX := Aside0.mk (HX.out.below B6)
          replace HB := Aside0.mk (HB.out.trans (B6.mono HB.out.size))
          clear B6 q14 HC2 HS g1 g6
          generalize w5.alloc (.cells #[.string x.f0, .int .u32 x.f1, .int .u32 x.f2, .int .u32 x.f3] 62) = w6 at *
          generalize w5.heap.size = Pc at *
          have g6 := HX.out.g6
          have g7 := HX.out.g7
          have g8 := HX.out.g8
          have x1 := HXC.out.g1
          have x3 := HXC.out.g3
          obtain ⟨n, hn⟩ : ∃ n, t.f3.length = n := ⟨_, rfl⟩
          have HN := Aside0.mk hn
          rw [hn] at g6
          unfold almTimes at HE
          rw [hn] at HE
          clear hn
          by_cases h5 : n = 0
          · have P5 := Aside0.mk h5
            have b5 : ((n : Int) == 0) = true := by rw [beq_iff_eq]; omega
            clear h5
            by_cases h6 : t.f4 = 0
            · have P6 := Aside0.mk h6
              have b6 : (t.f4 == 0) = true := by rw [beq_iff_eq]; exact h6
              have b6x : (t.f4 != 0) = false := by rw [bne_eq_false_iff_eq]; exact h6
              clear h6
              by_cases h7 : t.f5 = 0
              · have P7 := Aside0.mk h7
                have b7 : (t.f5 == 0) = true := by rw [beq_iff_eq]; exact h7
                have b7x : (t.f5 != 0) = false := by rw [bne_eq_false_iff_eq]; exact h7
                clear h7
                have HK := Aside0.mk (show errF [eAlmCtr, eAlmAct, eAlmModes, eAlmTimes] c i = 0 from by have h1 := P1.out; have h2 := P2.out; have h3 := P3.out; have h4 := P4.out; have h5 := P5.out; have h6 := P6.out; have h7 := P7.out; rw [HE.out]; simp [eq_self, h1, h2, h3, h4, h5, h6, h7] <;> first | omega | (intros; omega))
                go_wp2_with fail
                go_ret
                exact ⟨by rw [HK.out] <;> rfl, HB.out⟩
              · have P7 := Aside0.mk h7
                have b7 : (t.f5 == 0) = false := by rw [beq_eq_false_iff_ne]; exact h7
                have b7x : (t.f5 != 0) = true := by rw [bne_iff_ne]; exact h7
                clear h7
                have HK := Aside0.mk (show errF [eAlmCtr, eAlmAct, eAlmModes, eAlmTimes] c i = 74 from by have h1 := P1.out; have h2 := P2.out; have h3 := P3.out; have h4 := P4.out; have h5 := P5.out; have h6 := P6.out; have h7 := P7.out; rw [HE.out]; simp [eq_self, h1, h2, h3, h4, h5, h6, h7] <;> first | omega | (intros; omega))
                go_wp2_with fail
                go_ret
                exact ⟨by rw [HK.out] <;> rfl, HB.out⟩
            · have P6 := Aside0.mk h6
              have b6 : (t.f4 == 0) = false := by rw [beq_eq_false_iff_ne]; exact h6
              have b6x : (t.f4 != 0) = true := by rw [bne_iff_ne]; exact h6
              clear h6
              have HK := Aside0.mk (show errF [eAlmCtr, eAlmAct, eAlmModes, eAlmTimes] c i = 74 from by have h1 := P1.out; have h2 := P2.out; have h3 := P3.out; have h4 := P4.out; have h5 := P5.out; have h6 := P6.out; rw [HE.out]; simp [eq_self, h1, h2, h3, h4, h5, h6] <;> first | omega | (intros; omega))
              go_wp2_with fail
              go_ret
              exact ⟨by rw [HK.out] <;> rfl, HB.out⟩
          · have P5 := Aside0.mk h5
            have b5 : ((n : Int) == 0) = false := by rw [beq_eq_false_iff_ne]; omega
            clear h5
            by_cases h8 : t.f4 < 1
            · have P8 := Aside0.mk h8
              have b8 : decide (t.f4 < 1) = true := decide_eq_true h8
              clear h8
              have HK := Aside0.mk (show errF [eAlmCtr, eAlmAct, eAlmModes, eAlmTimes] c i = 74 from by have h1 := P1.out; have h2 := P2.out; have h3 := P3.out; have h4 := P4.out; have h5 := P5.out; have h8 := P8.out; rw [HE.out]; simp [eq_self, h1, h2, h3, h4, h5, h8] <;> first | omega | (intros; omega))
              go_wp2_with fail
              go_ret
              exact ⟨by rw [HK.out] <;> rfl, HB.out⟩
            · have P8 := Aside0.mk h8
              have b8 : decide (t.f4 < 1) = false := decide_eq_false h8
              clear h8
              by_cases h9 : x.f1 < t.f4
              · have P9 := Aside0.mk h9
                have b9 : decide (x.f1 < t.f4) = true := decide_eq_true h9
                clear h9
                have HK := Aside0.mk (show errF [eAlmCtr, eAlmAct, eAlmModes, eAlmTimes] c i = 74 from by have h1 := P1.out; have h2 := P2.out; have h3 := P3.out; have h4 := P4.out; have h5 := P5.out; have h8 := P8.out; have h9 := P9.out; rw [HE.out]; simp [eq_self, h1, h2, h3, h4, h5, h8, h9] <;> first | omega | (intros; omega))
                go_wp2_with fail
                go_ret
                exact ⟨by rw [HK.out] <;> rfl, HB.out⟩
              · have P9 := Aside0.mk h9
                have b9 : decide (x.f1 < t.f4) = false := decide_eq_false h9
                clear h9
                by_cases h10 : t.f5 = 0
                · have P10 := Aside0.mk h10
                  have b10 : (t.f5 == 0) = true := by rw [beq_iff_eq]; exact h10
                  have b10x : (t.f5 != 0) = false := by rw [bne_eq_false_iff_eq]; exact h10
                  clear h10
                  have HK := Aside0.mk (show errF [eAlmCtr, eAlmAct, eAlmModes, eAlmTimes] c i = 0 from by have h1 := P1.out; have h2 := P2.out; have h3 := P3.out; have h4 := P4.out; have h5 := P5.out; have h8 := P8.out; have h9 := P9.out; have h10 := P10.out; rw [HE.out]; simp [eq_self, h1, h2, h3, h4, h5, h8, h9, h10] <;> first | omega | (intros; omega))
                  go_wp2_with fail
                  go_ret
                  exact ⟨by rw [HK.out] <;> rfl, HB.out⟩
                · have P10 := Aside0.mk h10
                  have b10 : (t.f5 == 0) = false := by rw [beq_eq_false_iff_ne]; exact h10
                  have b10x : (t.f5 != 0) = true := by rw [bne_iff_ne]; exact h10
                  clear h10
                  by_cases h11 : t.f5 < x.f3
                  · have P11 := Aside0.mk h11
                    have b11 : decide (t.f5 < x.f3) = true := decide_eq_true h11
                    clear h11
                    have HK := Aside0.mk (show errF [eAlmCtr, eAlmAct, eAlmModes, eAlmTimes] c i = 74 from by have h1 := P1.out; have h2 := P2.out; have h3 := P3.out; have h4 := P4.out; have h5 := P5.out; have h8 := P8.out; have h9 := P9.out; have h10 := P10.out; have h11 := P11.out; rw [HE.out]; simp [eq_self, h1, h2, h3, h4, h5, h8, h9, h10, h11] <;> first | omega | (intros; omega))
                    go_wp2_with fail
                    go_ret
                    exact ⟨by rw [HK.out] <;> rfl, HB.out⟩
                  · have P11 := Aside0.mk h11
                    have b11 : decide (t.f5 < x.f3) = false := decide_eq_false h11
                    clear h11
                    by_cases h12 : x.f1 < t.f5
                    · have P12 := Aside0.mk h12
                      have b12 : decide (x.f1 < t.f5) = true := decide_eq_true h12
                      clear h12
                      have HK := Aside0.mk (show errF [eAlmCtr, eAlmAct, eAlmModes, eAlmTimes] c i = 74 from by have h1 := P1.out; have h2 := P2.out; have h3 := P3.out; have h4 := P4.out; have h5 := P5.out; have h8 := P8.out; have h9 := P9.out; have h10 := P10.out; have h11 := P11.out; have h12 := P12.out; rw [HE.out]; simp [eq_self, h1, h2, h3, h4, h5, h8, h9, h10, h11, h12] <;> first | omega | (intros; omega))
                      go_wp2_with fail
                      go_ret
                      exact ⟨by rw [HK.out] <;> rfl, HB.out⟩
                    · have P12 := Aside0.mk h12
                      have b12 : decide (x.f1 < t.f5) = false := decide_eq_false h12
                      clear h12
                      have HK := Aside0.mk (show errF [eAlmCtr, eAlmAct, eAlmModes, eAlmTimes] c i = 0 from by have h1 := P1.out; have h2 := P2.out; have h3 := P3.out; have h4 := P4.out; have h5 := P5.out; have h8 := P8.out; have h9 := P9.out; have h10 := P10.out; have h11 := P11.out; have h12 := P12.out; rw [HE.out]; simp [eq_self, h1, h2, h3, h4, h5, h8, h9, h10, h11, h12] <;> first | omega | (intros; omega))
                      go_wp2_with fail
                      go_ret
                      exact ⟨by rw [HK.out] <;> rfl, HB.out⟩
      · have P3 := Aside0.mk h3
        have b3 : (av == 0) = false := by rw [beq_eq_false_iff_ne]; exact h3
        have b3x : (av != 0) = true := by rw [bne_iff_ne]; exact h3
        clear h3
        have HK := Aside0.mk (show errF [eAlmCtr, eAlmAct, eAlmModes, eAlmTimes] c i = av from by have h1 := P1.out; have h2 := P2.out; have h3 := P3.out; rw [HE.out]; simp [eq_self, h1, h2, h3] <;> first | omega | (intros; omega))
        go_wp2_with fail
        go_ret
        exact ⟨by rw [HK.out] <;> rfl, HB.out⟩
end Go.Proofs.YthckjbmgeidkgaaDoor.XA
